/- Part Opn. -/
import Derived.Test.YthlfaofofaphfaaGreatDoorPik
import Derived.Test.YthlfaofofaphfaaGreatDoorW21
import Derived.Test.YthlfaofofaphfaaGreatDoorChw
import Derived.Test.YthlfaofofaphfaaGreatDoorTape
import Derived.Test.YthlfaofofaphfaaGreatDoorVst
import Derived.Test.YthlfaofofaphfaaGreatDoorTakf
import Derived.Test.YthlfaofofaphfaaGreatDoorPak
import Derived.Test.YthlfaofofaphfaaGreatDoorTab
open Go.Value renaming int→D,slice→J,agg→aa,pointer→ab,bool→ae
open Go.IntKind renaming i64→t
open Go.Obj renaming cells→K
open Go.Proofs.Tryz renaming prog→aD,underlying28→a5,underlying103→a9
open List renaming length→H,length_append→U,append_assoc→ag,length_drop→al,length_cons→am,take_append_drop→aw,length_take→aN,length_nil→a6,drop_eq_getElem_cons→a7,getD_eq_getElem?_getD→ba,not_mem_nil→bc,append_nil→bf,nil_append→bh,length_singleton→bk,mem_cons→bo,getElem_mem→bz,take_left'→bA,length_set→bB
open Nat renaming le_refl→R,zero_add→a4,add_zero→be,zero_le→bl,reduceEqDiff→bw
open Int renaming toNat_natCast→S
open Option renaming none→O,some→Q
open Array renaming getElem?_push→W
open Go.Builtin renaming zeroCells→a8
open Go renaming Value→aO
namespace Go.Proofs.YthlfaofofaphfaaGreatDoor
open Go Go.V
set_option linter.unusedSimpArgs false
set_option linter.unusedVariables false
set_option maxRecDepth 100000
variable(T:World)
theorem Cb(h:Hp)(x y:Vt):Zd aD T 124 #[aa (Zv x).toArray,aa (Zv y).toArray] h fun v' h'=>v'=D t (NJ x.Zu y.Zu)/\Zj h.size h h':=by
 refine Zd.XS [_,_] Tryz.func124 ?_;unfold Zv;simp -implicitDefEqProofs only[go_sem];refine (SN T _ _ _).pure ?_;simp -implicitDefEqProofs only[go_sem]
 (repeat' (first|exact Zj.refl _ _|assumption|refine Zj.add ?_ _|refine Zj.Zt ?_ aab _|refine Zj.trans aac ?_))
def Found(l:List Vt)(s:Int)(i:Nat)(b:Bool):Prop:=(b=true/\∃hi:i<(H l),l[i].Zu=s)\/(b=false/\(∀j (hj:j<(H l)),j<i->l[j].Zu<s)/\∀j (hj:j<(H l)),i<=j->s<l[j].Zu)
theorem dd(a b:Int):NJ a b<0↔a<b:=by unfold NJ;split<;>(try split)<;>omega
theorem Cc(a b:Int):NJ a b=0↔a=b:=by unfold NJ;split<;>(try split)<;>omega
theorem Zaf{x:Nat}:XF .u64 (x:Int) 1=((x/2:Nat):Int):=by
 rw[show (1:Int)=((1:Nat):Int) from rfl,Nb .u64 x 1 aaa,Nat.shiftRight_eq_div_pow]
theorem jP(h:Hp)(u:aO)(l:List Vt)(v:Vt)(s:Ts Zv 8 h u l)(hs:Srt l)(hl:(H l)<=2199023255552):
  Zd aD T 123 #[u,aa (Zv v).toArray,.func (.func 124) #[] #[]] h fun v' h'=>(∃(i:Nat) (b:Bool),i<=(H l)/\v'=.tuple [D t i,ae b].toArray/\Found l v.Zu i b)/\Zj h.size h h':=by
 obtain⟨p,c,rfl,XL⟩:=WN s;refine Zd.XS [_,_,_] Tryz.func123 ?_;unfold Zv;simp -implicitDefEqProofs only[go_sem];refine VS.Yk (fun F g=>Zj h.size h g/\g[h.size]? = Q (K (Zv v).toArray 133)/\F 0=J p (H l) c/\F 2=.func (.func 124) #[] #[]/\F 4=ab (Q ⟨h.size,0,O⟩)/\F 8=D t (H l)/\∃i j:Nat,i<=j/\j<=(H l)/\F 9=D t i/\F 10=D t j/\(∀k (hk:k<(H l)),k<i->l[k].Zu<v.Zu)/\(∀k (hk:k<(H l)),j<=k->v.Zu<=l[k].Zu))
  (fun F _=>(vi (F 10)).toNat-(vi (F 9)).toNat) rfl ⟨(Zj.refl _ _).add _,Zc,rfl,rfl,rfl,rfl,0,(H l),pA,pA,rfl,rfl,fun k _ hk=>by omega,fun k hk Ln=>by omega⟩ ?_
 rintro F g ⟨hg,hx,f0,f2,f4,f8,i,j,vd,hj,f9,f10,lo,hi⟩;have Ov:=hg.size;have hz:=Za hx;have rx:rd g ⟨h.size,0,O⟩ 8=Q (Zv v):=Zy hx rfl;unfold Zv at rx;by_cases ZT:i<j
 .have Z7:(i:Int)<j:=pA;have e1:(i:Int)+(j:Int)=((i+j:Nat):Int):=pA;have e2:((i+j:Nat):Int)%18446744073709551616=((i+j:Nat):Int):=pA;have e3:=Zaf (x:=i+j);obtain⟨m,hm⟩:=ZL ((i+j)/2);rw[<-hm]at e3;have gh:m<(H l):=pA;have ZuZ:(m:Int)<(H l):=pA;obtain⟨bb,oo,rfl,TC,_,XL⟩:=XL (by intro e;rw[e]at gh;simp at gh);have rm:rd g ⟨bb,oo+m*8,O⟩ 8=Q (Zv l[m]):=by rw[Q3 hg (by exact TC)];exact XL m gh
  obtain⟨y,hy⟩:=ZL (l[m]);rw[<-hy]at rm;unfold Zv at rm;simp -implicitDefEqProofs only[go_sem,f9,f10,Z7,e1,e2,e3];refine VS.w (g.size) [] (.q 0 (.q 1 (.q 2 (.q 3 (.q 4 (.q 5 (.s 6 (.q 7 .nil)))))))) mixed vM ?_;have q1:bb<g.size:=pA;simp -implicitDefEqProofs only[go_sem,f0,f2,f4,ZuZ,rm,rx,hz,q1];refine (Cb T g y v).use ?_;rintro _ g1 ⟨rfl,b1⟩;have Mc:=hg.trans (b1.mono Ov);have Wf:=b1.get hz hx;by_cases q:y.Zu<v.Zu
  .have q':=(dd _ _).2 q;simp -implicitDefEqProofs only[go_sem,q',f0,f2,f4,f8,f9,f10];refine⟨b1,⟨Mc,Wf,f0,f2,f4,f8,m+1,j,pA,hj,rfl,f10,fun k hk hkm=>?_,hi⟩,?_⟩
   .by_cases e:k=m
    .subst e;rw[<-hy];exact q
    .have:=hs k m hk gh pA;rw[<-hy]at this;omega
   .simp only[vi,Zr,↓reduceIte,bw,f9,f10];omega
  .have q':¬NJ y.Zu v.Zu<0:=fun h=>q ((dd _ _).1 h);simp -implicitDefEqProofs only[go_sem,q',f0,f2,f4,f8,f9,f10];refine⟨b1,⟨Mc,Wf,f0,f2,f4,f8,i,m,pA,pA,f9,rfl,lo,fun k hk hkm=>?_⟩,?_⟩
   .by_cases e:k=m
    .subst e;rw[<-hy];omega
    .have:=hs m k gh hk pA;rw[<-hy]at this;omega
   .simp only[vi,Zr,↓reduceIte,bw,f9,f10];omega
 .have Z7:¬(i:Int)<j:=pA;obtain rfl:i=j:=pA;by_cases gj:i<(H l)
  .have Zag:(i:Int)<(H l):=pA;obtain⟨bb,oo,rfl,TC,_,XL⟩:=XL (by intro e;rw[e]at gj;simp at gj);have rm:rd g ⟨bb,oo+i*8,O⟩ 8=Q (Zv l[i]):=by rw[Q3 hg (by exact TC)];exact XL i gj
   have Xv:=hi i gj (R _);obtain⟨y,hy⟩:=ZL (l[i]);rw[<-hy]at rm Xv;unfold Zv at rm;simp -implicitDefEqProofs only[go_sem,f9,f10,Z7];refine VS.w (g.size) [] (.q 0 (.q 1 (.q 2 (.q 3 (.q 4 (.q 5 (.q 6 (.q 7 (.q 8 (.q 9 (.q 10 (.s 11 (.q 12 (.q 13 (.q 14 (.q 15 .nil)))))))))))))))) mixed vM ?_;have q1:bb<g.size:=pA;simp -implicitDefEqProofs only[go_sem,f0,f2,f4,f8,f9,f10,Zag,rm,rx,hz,q1];refine (Cb T g y v).use ?_;rintro _ g1 ⟨rfl,b1⟩;have Mc:=hg.trans (b1.mono Ov);by_cases q:y.Zu=v.Zu
   .have q':=(Cc _ _).2 q;simp -implicitDefEqProofs only[go_sem,q'];exact⟨b1,⟨i,true,pA,rfl,.inl ⟨rfl,gj,by rw[<-hy];exact q⟩⟩,Mc⟩
   .have q':¬NJ y.Zu v.Zu=0:=fun h=>q ((Cc _ _).1 h);simp -implicitDefEqProofs only[go_sem,q'];refine⟨b1,⟨i,false,pA,rfl,.inr ⟨rfl,fun k hk hkm=>lo k hk hkm,fun k hk hkm=>?_⟩⟩,Mc⟩;by_cases e:k=i
    .subst e;rw[<-hy];omega
    .have:=hs i k gj hk pA;rw[<-hy]at this;omega
  .have Zag:¬(i:Int)<(H l):=pA;simp -implicitDefEqProofs only[go_sem,f9,f10,Z7];refine VS.w (g.size) [] (.q 0 (.q 1 (.q 2 (.q 3 (.q 4 (.q 5 (.q 6 (.q 7 (.q 8 (.q 9 (.q 10 (.s 11 (.q 12 (.q 13 (.q 14 (.q 15 .nil)))))))))))))))) mixed vM ?_;simp -implicitDefEqProofs only[go_sem,f0,f2,f4,f8,f9,f10,Zag];exact⟨⟨i,false,pA,rfl,.inr ⟨rfl,fun k hk hkm=>lo k hk hkm,fun k hk hkm=>by omega⟩⟩,hg⟩
theorem JX(l:List Vt):(ZU Zv l).length=(H l)*8:=Qs (n:=8) (fun _=>rfl) l
theorem df(l:List Vt):(ZU Zv l).all YE=true:=by
 induction l with
 | nil=>rfl
 | cons x l ih=>rw[ZU,List.all_append,ih];rfl
theorem zeroV(k:Nat):(a8 (rep 8 [Value.int t 0]).toArray k).toList.length=k*8:=by rw[Array.length_toList,Xs];rfl
theorem sz(k:Nat):(a8 (rep 8 [Value.int t 0]).toArray k).toList.all YE=true:=by
 unfold a8;rw[List.all_eq_true];intro x hx;simp only[Array.toList_map,Array.toList_range,List.mem_map]at hx;obtain⟨j,_,rfl⟩:=hx;have:j%8<8:=Nat.mod_lt _ aaa;show YE ((rep 8 [Value.int t 0]).toArray[j%8]!)=true;rcases (by omega:j%8=0\/j%8=1\/j%8=2\/j%8=3\/j%8=4\/j%8=5\/j%8=6\/j%8=7) with e|e|e|e|e|e|e|e<;>rw[e]<;>rfl
theorem FJ:Extern.findNext Tryz.f138=O/\Extern.find Tryz.f138=Q (Extern.SlicesOverlaps.overlaps #[103,103] #[4]):=⟨vM,vM⟩
theorem sA(h:Hp)(B:Nat)(p:Option Addr)(cap i:Nat)(l:List Vt)(x:Vt)(bv:Nat)(Zq:QF B 133 Zv 8 h (.slice p l.length cap) l)(hB:B<=h.size)(hi:i<=l.length)(hl:l.length<=1000000)(hx:h[bv]? = Q (.cells (Zv x).toArray 133))(Y7:cap≠0->∀b o,p=Q ⟨b,o,O⟩->b≠bv):
  Zd aD T 126 #[.slice p l.length cap,.int .i64 i,.slice (Q ⟨bv,0,O⟩) 1 1] h fun v' h'=>QF B 133 Zv 8 h' v' (l.take i++x :: l.drop i)/\Zj B h h':=by
 refine Zd.XS [_,_,_] Tryz.func126 ?_;have hlc:l.length<=cap:=by
  obtain⟨_,_,e,h⟩:=Zq.open;simp only[Value.slice.injEq]at e;omega
 have n1:(0:Int)<=(i:Int):=by omega
 have n2:(i:Int)<=(l.length:Int):=by omega
 have sx:Ts Zv 8 h (.slice (Q ⟨bv,0,O⟩) 1 1) [x]:=⟨by
  have:=Th (pre:=[]) (cs:=Zv x) (post:=[]) (m:=1) (n:=8) (c:=1) (by rw[bf,bh];exact hx) rfl rfl
  simpa [ZU] using this⟩
 by_cases Ha:i=l.length
 .subst Ha;have k1:((1:Nat):Int)=1:=rfl;by_cases c0:cap=0
  .obtain rfl:l=[]:=List.eq_nil_of_length_eq_zero (by omega);subst c0;rw[a6]at Zq ⊢;have k0:((0:Nat):Int)=0:=rfl;simp -implicitDefEqProofs only[go_sem,k0,k1];refine Rj (E:=133) (B:=B) (n:=8) (bytes:=64) Om a9 Lw mN rfl mM (fun _=>rfl) Zq hB sx (by simp only[bk,a6];omega) (by omega) ?_;intro v' h' ho hb _;simp -implicitDefEqProofs only[go_sem];exact⟨ho,hb⟩
  .obtain⟨b,ZG,Ge,rfl,hg,_,NV,_⟩:=Zq.Zq.ZG c0;have hz:(l.length:Int)<=(l.length:Int):=Int.le_refl _;simp -implicitDefEqProofs only[go_sem,n1,n2,k1,S];refine Rj (E:=133) (B:=B) (n:=8) (bytes:=64) Om a9 Lw mN rfl mM (fun _=>rfl) Zq hB sx (by simp only[bk];omega) (by omega) ?_;intro v' h' ho hb _;simp -implicitDefEqProofs only[go_sem];rw[List.take_length,List.drop_length];exact⟨ho,hb⟩
 have gj:i<l.length:=by omega
 have mF:¬(i:Int)=(l.length:Int):=by omega
 have c0:cap≠0:=by omega
 obtain⟨b,ZG,Ge,rfl,hg,_,NV,_⟩:=Zq.Zq.ZG c0;have hbv:b≠bv:=Y7 c0 b 0 rfl;have et:l=l.take i++(l[i] :: l.drop (i+1)):=by
  conv=>lhs;rw[<-aw i l,a7 gj]
 have ed:ZU Zv (l.drop i)=Zv l[i]++ZU Zv (l.drop (i+1)):=by
  rw[a7 gj];rfl
 have ee:ZU Zv l=ZU Zv (l.take i)++ZU Zv (l.drop i):=by rw[<-Y6,aw]
 have lt:(ZU Zv (l.take i)).length=i*8:=by rw[JX,aN];congr 1;omega
 have ld:(ZU Zv (l.drop i)).length=(l.length-i)*8:=by rw[JX,al]
 have ZdR:ZU Zv (l.take i++x :: l.drop i)=ZU Zv (l.take i)++(Zv x++ZU Zv (l.drop i)):=by rw[Y6];rfl
 have ZdS:(l.take i++x :: l.drop i).length=l.length+1:=by rw[U,aN,am,al];omega
 have c1:¬cap=i:=by omega
 have m1:(l.length:Int)+1=((l.length+1:Nat):Int):=by omega
 have m2:((l.length+1:Nat):Int)-(i:Int)=((l.length+1-i:Nat):Int):=by omega
 have m3:(i:Int)+1=((i+1:Nat):Int):=by omega
 have k1:((1:Nat):Int)=1:=rfl;by_cases Wx:cap<l.length+1
 .have dg:(cap:Int)<((l.length+1:Nat):Int):=by omega
  have n3:(i:Int)<=(cap:Int):=by omega
  simp -implicitDefEqProofs only[go_sem,n1,n2,n3,k1,mF,m1,dg,m2,S];have Zu0:UO B 133 8 h (.slice (Q ⟨b,0,O⟩) i cap) i (ZU Zv (l.take i)):=by
   have:=Zq.Zq.Mq hi;rw[ee,bA lt]at this;exact this
  refine Bq (E:=133) (B:=B) (n:=8) (m:=i) (k:=l.length+1-i) (bytes:=64) (zs:=rep 8 [Value.int .i64 0]) Om Tryz.underlying3 Lw mN rfl (by decide) mM Zu0 hB (sz _) (by omega) (by omega) ?_;intro w g ow _ jQ;obtain⟨jL,c2,rfl⟩:=jQ _ _ rfl (by omega);obtain⟨Z,hZ⟩:=ZL ((a8 (rep 8 [Value.int .i64 0]).toArray (l.length+1-i)).toList);have lZ:=zeroV (l.length+1-i);rw[<-hZ]at ow lZ;have ec:i+(l.length+1-i)=l.length+1:=by omega
  rw[ec]at ow ⊢;rcases ow with⟨_,h0,_⟩|⟨b2,ZuQ,sp2,_,jG,Wv,_,hs2,EJ⟩
  .omega
  simp only[Value.slice.injEq,Option.some.injEq,Addr.mk.injEq,true_and,and_true]at jG;obtain⟨rfl,rfl⟩:=jG;have d1:¬c2=i:=by omega
  have d2:(i:Int)<=((l.length+1:Nat):Int):=by omega
  have hbl:=Za hg;have hvl:=Za hx;have nz:g[b]? = _:=jL.get hbl hg;have hgv:g[bv]? = _:=jL.get hvl hx;have sx1:Sl 8 g (.slice (Q ⟨bv,0,O⟩) 1 1) 1 (Zv x):=Th (pre:=[]) (post:=[]) (by rw[bf,bh];exact hgv) rfl rfl;have Zai:min 1 (l.length+1-i)=1:=by omega
  have eZ:ZU Zv (l.take i)++Z++sp2=ZU Zv (l.take i)++(Z.take 8++(Z.drop 8++sp2)):=by rw[ag,<-ag (Z.take 8),aw]
  have lz8:(Z.take 8).length=8:=by rw[aN];omega
  have ldz:(Z.drop 8).length=(l.length-i)*8:=by rw[al];omega
  have ec1:Xd (ZU Zv (l.take i)++Z++sp2) (i*8) ((Zv x).take (1*8))=(ZU Zv (l.take i)++Zv x)++(Z.drop 8++sp2):=by
   rw[show (Zv x).take (1*8)=Zv x from rfl,eZ,Sj lt.symm (by rw[lz8];rfl),ag]
  simp -implicitDefEqProofs only[go_sem,n1,d1,d2,S,a4];refine KD (E:=133) (n:=8) Om Lw Wv sx1 rfl ?_ ?_
  .rw[Zai,U,U,lt,lZ];omega
  rw[Zai,ec1];obtain⟨g2,FK⟩:=ZL (g.setIfInBounds h.size (.cells ((ZU Zv (l.take i)++Zv x)++(Z.drop 8++sp2)).toArray 133):Hp);rw[<-FK];have g2n:g2[h.size]? = Q (.cells ((ZU Zv (l.take i)++Zv x)++(Z.drop 8++sp2)).toArray 133):=by rw[FK];exact ZV Wv
  have g2b:g2[b]? = Q (.cells (ZU Zv (l.take i)++(ZU Zv (l.drop i)++ZG)).toArray 133):=by rw[FK,Xg (by omega),nz,ee,ag]
  have bg2:Zj h.size h g2:=by rw[FK];exact jL.Zt (R _) _
  clear FK;have m4:(i:Int)+1=((i+1:Nat):Int):=by omega
  have d3:¬c2=i+1:=by omega
  have d4:((i+1:Nat):Int)<=((l.length+1:Nat):Int):=by omega
  have d5:(0:Int)<=((i+1:Nat):Int):=by omega
  simp -implicitDefEqProofs only[go_sem];refine VS.w (h.size) [8] (.q 0 (.q 1 (.q 2 (.q 3 (.q 4 (.q 5 (.q 6 (.q 7 (.w 8 .nil))))))))) mixed (by kernel_rfl) ?_;simp -implicitDefEqProofs only[go_sem,n1,n2,m4,k1,d3,d4,d5,c1,S,a4];have ss:Sl 8 g2 (.slice (Q ⟨b,i*8,O⟩) (l.length-i) (cap-i)) (l.length-i) (ZU Zv (l.drop i)):=Th g2b ld lt.symm;have min2:min (l.length-i) (l.length+1-(i+1))=l.length-i:=by omega
  have etk:(ZU Zv (l.drop i)).take ((l.length-i)*8)=ZU Zv (l.drop i):=List.take_of_length_le (by omega);have ec2:Xd ((ZU Zv (l.take i)++Zv x)++(Z.drop 8++sp2)) ((i+1)*8) ((ZU Zv (l.drop i)).take ((l.length-i)*8))=ZU Zv (l.take i++x :: l.drop i)++sp2:=by
   rw[etk,Sj (by rw[U,lt];show (i+1)*8=i*8+8;omega) (by rw[ld,ldz]),ZdR];simp only[ag]
  refine KD (E:=133) (n:=8) Om Lw g2n ss (df _) ?_ ?_
  .rw[min2,U,U,U,lt,ldz];show _<=i*8+8+_;omega
  rw[min2,ec2];simp -implicitDefEqProofs only[go_sem];refine⟨⟨?_⟩,(bg2.Zt (R _) _).mono hB⟩;rw[ZdS];exact UO.iI hB (ZV g2n) (by rw[JX,ZdS]) hs2 EJ
 .have dg:¬(cap:Int)<((l.length+1:Nat):Int):=by omega
  have ZmI:((l.length+1:Nat):Int)<=(cap:Int):=by omega
  have n4:(0:Int)<=((l.length+1:Nat):Int):=by omega
  have m4:(i:Int)+1=((i+1:Nat):Int):=by omega
  have d4:((i+1:Nat):Int)<=((l.length+1:Nat):Int):=by omega
  have d5:(0:Int)<=((i+1:Nat):Int):=by omega
  have d3:¬cap=i+1:=by omega
  simp -implicitDefEqProofs only[go_sem,n1,n2,n4,k1,c1,mF,m1,dg,ZmI,m4,d3,d4,d5,S,a4];have gB:h[b]? = Q (.cells (ZU Zv l++ZG).toArray 133 (0,0)):=hg;have gA:h[bv]? = Q (.cells (Zv x).toArray 133 (0,0)):=hx;have lsp:8<=ZG.length:=by
   rw[NV];have:=Nat.mul_le_mul_right 8 (show 1<=cap-l.length by omega);omega
  refine Br Tryz.func138 (by decide) rfl FJ.1 FJ.2 ?_;refine Bp (size:=8) a9 Lw (fun e=>hbv e.symm) gA gB (by intro e;have:=congrArg H e;rw[U,a6]at this;omega) ?_;simp -implicitDefEqProofs only[go_sem];refine VS.w (B) [8] (.q 0 (.q 1 (.q 2 (.q 3 (.q 4 (.q 5 (.q 6 (.q 7 (.w 8 .nil))))))))) mixed (by kernel_rfl) ?_;simp -implicitDefEqProofs only[go_sem,n1,n2,m4,k1,d3,d4,d5,c1,S,a4];have ss:Sl 8 h (.slice (Q ⟨b,i*8,O⟩) (l.length+1-i) (cap-i)) (l.length+1-i) (ZU Zv (l.drop i)++ZG.take 8):=Th (post:=ZG.drop 8) (by rw[hg,ee,ag,ag,aw]) (by rw[U,ld,aN];omega) lt.symm;have min2:min (l.length+1-i) (l.length+1-(i+1))=l.length-i:=by omega
  have etk:(ZU Zv (l.drop i)++ZG.take 8).take ((l.length-i)*8)=ZU Zv (l.drop i):=bA ld;have ld1:(ZU Zv (l.drop (i+1))).length=(l.length-(i+1))*8:=by rw[JX,al]
  have ecc:ZU Zv l++ZG=(ZU Zv (l.take i)++Zv l[i])++((ZU Zv (l.drop (i+1))++ZG.take 8)++ZG.drop 8):=by
   rw[ee,ed];simp only[ag,aw]
  have ec1:Xd (ZU Zv l++ZG) ((i+1)*8) (ZU Zv (l.drop i))=ZU Zv (l.take i)++(Zv l[i]++(ZU Zv (l.drop i)++ZG.drop 8)):=by
   rw[ecc,Sj (by rw[U,lt];show (i+1)*8=i*8+8;omega) (by rw[ld,U,ld1,aN];omega),ag]
  refine qC (E:=133) (n:=8) Om Lw gB ss (by rw[min2,etk];exact df _) ?_ ?_
  .rw[min2,U,JX];omega
  rw[min2,etk,ec1];obtain⟨g2,FK⟩:=ZL (h.setIfInBounds b (.cells (ZU Zv (l.take i)++(Zv l[i]++(ZU Zv (l.drop i)++ZG.drop 8))).toArray 133):Hp);rw[<-FK];have g2n:g2[b]? = Q (.cells (ZU Zv (l.take i)++(Zv l[i]++(ZU Zv (l.drop i)++ZG.drop 8))).toArray 133):=by rw[FK];exact ZV hg
  have g2v:g2[bv]? = Q (.cells (Zv x).toArray 133):=by rw[FK,Xg hbv];exact hx
  have bg2:Zj B h g2:=by rw[FK];exact Zj.set Ge _
  clear FK;have sx1:Sl 8 g2 (.slice (Q ⟨bv,0,O⟩) 1 1) 1 (Zv x):=Th (pre:=[]) (post:=[]) (by rw[bf,bh];exact g2v) rfl rfl;have Zai:min 1 (l.length+1-i)=1:=by omega
  have ec2:Xd (ZU Zv (l.take i)++(Zv l[i]++(ZU Zv (l.drop i)++ZG.drop 8))) (i*8) ((Zv x).take (1*8))=ZU Zv (l.take i++x :: l.drop i)++ZG.drop 8:=by
   rw[show (Zv x).take (1*8)=Zv x from rfl,Sj lt.symm (show (Zv x).length=(Zv l[i]).length from rfl),ZdR];simp only[ag]
  simp -implicitDefEqProofs only[go_sem,n1,n2,m4,k1,d3,d4,d5,c1,S,a4];refine KD (E:=133) (n:=8) Om Lw g2n sx1 rfl ?_ ?_
  .rw[Zai,U,U,lt];show i*8+1*8<=i*8+(8+_);omega
  rw[Zai,ec2];simp -implicitDefEqProofs only[go_sem];refine⟨⟨?_⟩,bg2.trans (Zj.set Ge _)⟩;rw[ZdS];exact UO.iI Ge (ZV g2n) (by rw[JX,ZdS]) (by rw[al,NV];omega) (by omega)
theorem ZdT{l:List Vt}(hs:Srt l)(hm:∀x∈l,Yo x):∀i (hi:i<(H l)),(i:Int)<=l[i].Zu:=by
 intro i
 induction i with
 | zero=>intro hi;have:=(hm _ (bz hi)).1.1;omega
 | succ i ih=>
  intro hi;have h1:=ih pA;have h2:=hs i (i+1) pA hi pA;omega
theorem ZdU{l:List Vt}(hs:Srt l)(hm:∀x∈l,Yo x):(H l)<=40:=by
 by_cases h:(H l)<=40
 .exact h
 .have h1:=ZdT hs hm 40 pA;have h2:=(hm _ (bz (show 40<(H l) by omega))).1.2;omega
def Xn(p:YA)(l:List Vt)(x:Vt):Int:=if JG p l≠0 then 5 else if ¬Yo x then 2 else if ZM x.b p then 7 else 0
def nF(B:Nat)(h':Hp)(v':aO)(p:YA)(l:List Vt)(x:Vt):Prop:=∃w,v'=.tuple [aa (XC (if Xn p l x=0 then x.b else ⟨0,0⟩) w).toArray,D t (Xn p l x)].toArray /\
 QF B 133 Zv 8 h' w (if Xn p l x=0 then JH l x else [])
theorem Ie(h:Hp)(p:YA)(u:aO)(l:List Vt)(x:Vt)(s:Ts Zv 8 h u l)(hl:(H l)<=2199023255552):
  Zd aD T 97 #[aa (XC p u).toArray,aa (Zv x).toArray] h fun v' h'=>nF h.size h' v' p l x/\Zj h.size h h':=by
 obtain⟨pu,cu,rfl,_⟩:=WN s;refine Zd.Lt [_,_] Tryz.func97 ?_;unfold XC Zv;simp -implicitDefEqProofs only[go_sem];obtain⟨h0,Qe⟩:=ZL (((h.push (K (XC p (J pu (H l) cu)).toArray 105)).push (K (Zv x).toArray 133)).push (K [D t 0,D t 0,J O 0 0].toArray 105):Hp);have b0:Zj h.size h h0:=by rw[Qe];exact (((Zj.refl _ _).add _).add _).add _
 have s0:h0.size=h.size+3:=by rw[Qe];simp
 have x0:h0[h.size]? = Q (K (XC p (J pu (H l) cu)).toArray 105):=by
  rw[Qe,W,if_neg VL,W,if_neg IQ,Zc]
 have y0:h0[h.size+1]? = Q (K (Zv x).toArray 133):=by
  rw[Qe,W,if_neg IQ,W,if_pos IQ]
 have z0:h0[h.size+2]? = Q (K [D t 0,D t 0,J O 0 0].toArray 105):=by
  rw[Qe,W,if_pos IQ]
 have e0:((h.push (K #[Value.int t p.r,D t p.n,J pu (H l) cu] 105)).push (K #[Value.int t x.Zu,D t x.b.r,D t x.b.n,D t x.k,D t x.c,D t x.s,D t x.nm,D t x.v] 133)).push (K #[Value.int t 0,D t 0,J O 0 0] 105)=h0:=Qe.symm;rw[e0];clear e0 Qe;refine (Mb T h0 p _ l (s.Yz b0) pA).use ?_;rintro _ h1 ⟨rfl,b1⟩;have s1:=b1.size;have B1:Zj h.size h h1:=b0.trans (b1.mono pA);have x1:=b1.get pA x0;have y1:=b1.get pA y0;have z1:=b1.get pA z0;have fin:∀(G:Hp) (w:List aO),(H w)=3->w.all YE=true->G[h.size+2]? = Q (K [D t 0,D t 0,J O 0 0].toArray 105)->wr G ⟨h.size+1+1,0,O⟩ w=Q (G.setIfInBounds (h.size+1+1) (K w.toArray 105)):=by
  intro G w h3 h1 hx;rw[Ye (b:=h.size+1+1) hx 0 w,ZW (by rw[h3];rfl),if_pos ⟨by rw[h3];simp,h1⟩]
 have Zaj:h.size+2<h1.size:=pA;unfold nF;rcases IX p l with e0|e0
 case inr=>
  have e:Xn p l x=5:=by unfold Xn;rw[if_pos (by rw[e0];decide)]
  have w2:=fin h1 [D t 0,D t 0,J O 0 0] rfl rfl z1;simp -implicitDefEqProofs only[go_sem,e0,e,w2,Zaj];exact⟨⟨_,rfl,QF.nil _ _ _ _ _⟩,B1.Zt pA _⟩
 have r1:rd h1 ⟨h.size+1,0,O⟩ 8=Q (Zv x):=Zy y1 rfl;unfold Zv at r1;simp -implicitDefEqProofs only[go_sem,e0,r1];refine (Gi T h1 x).use ?_;rintro _ h2 ⟨rfl,b2⟩;have s2:=b2.size;have B2:=B1.trans (b2.mono pA);have x2:=b2.get pA x1;have y2:=b2.get pA y1;have z2:=b2.get pA z1;have HM:h.size+2<h2.size:=pA;by_cases q1:Yo x
 case neg=>
  have e:Xn p l x=2:=by unfold Xn;rw[if_neg (by rw[e0];decide),if_pos q1]
  have w2:=fin h2 [D t 0,D t 0,J O 0 0] rfl rfl z2;simp -implicitDefEqProofs only[go_sem,q1,e,w2,HM];exact⟨⟨_,rfl,QF.nil _ _ _ _ _⟩,B2.Zt pA _⟩
 have rb:rd h2 ⟨h.size+1,1,O⟩ 2=Q [D t x.b.r,D t x.b.n]:=by rw[YL y2 (by simp[Zv])];rfl
 have rp:rd h2 ⟨h.size,0,O⟩ 2=Q [D t p.r,D t p.n]:=by rw[YL x2 (by simp[XC])];rfl
 simp -implicitDefEqProofs only[go_sem,q1,rb,rp];refine (TD T h2 x.b p).use ?_;rintro _ h3 ⟨rfl,b3⟩;have s3:=b3.size;have B3:=B2.trans (b3.mono pA);have x3:=b3.get pA x2;have y3:=b3.get pA y2;have z3:=b3.get pA z2;have qQ:h.size+2<h3.size:=pA;by_cases q2:ZM x.b p
 case pos=>
  have e:Xn p l x=7:=by unfold Xn;rw[if_neg (by rw[e0];decide),if_neg (fun h=>h q1),if_pos q2]
  have w2:=fin h3 [D t 0,D t 0,J O 0 0] rfl rfl z3;have zf:KN x.b p<0:=(LG x.b p).2 q2;simp -implicitDefEqProofs only[go_sem,zf,e,w2,qQ];exact⟨⟨_,rfl,QF.nil _ _ _ _ _⟩,B3.Zt pA _⟩
 have e:Xn p l x=0:=by unfold Xn;rw[if_neg (by rw[e0];decide),if_neg (fun h=>h q1),if_neg q2]
 have zf:¬KN x.b p<0:=fun h=>q2 ((LG x.b p).1 h);have srt:=Fp e0;have few:=ZdU srt (jk e0);have rv:hc h3 ⟨h.size,2,O⟩=Q (J pu (H l) cu):=by rw[Zn x3];rfl
 simp -implicitDefEqProofs only[go_sem,zf,rv];refine (SP T h3 _ l (s.Yz B3) hl).use ?_;rintro w4 h4 ⟨o4,b4⟩;have s4:=b4.size;have B4:=B3.trans (b4.mono pA);have y4:=b4.get pA y3;have z4:=b4.get pA z3;have r4:rd h4 ⟨h.size+1,0,O⟩ 8=Q (Zv x):=Zy y4 rfl;unfold Zv at r4;simp -implicitDefEqProofs only[go_sem,r4];refine (jP T h4 w4 l x o4.ts srt hl).use ?_;rintro _ h5 ⟨⟨i,b,hi,rfl,hf⟩,b5⟩;have s5:=b5.size;have B5:=B4.trans (b5.mono pA);have y5:=b5.get pA y4;have z5:=b5.get pA z4;have o5:=o4.Yz b5 (R _);have r5:rd h5 ⟨h.size+1,0,O⟩ 8=Q (Zv x):=Zy y5 rfl;unfold Zv at r5;have n1:(0:Int)<=(i:Int):=pA;obtain⟨p4,c4,rfl,hc4⟩:=o4.open;rcases hf with⟨rfl,gj,heq⟩|⟨rfl,hlo,hhi⟩
 .have Zag:(i:Int)<((H l):Int):=pA;have c0:c4≠0:=pA;obtain⟨b,ZG,Ge,rfl,hg,_,NV,_⟩:=o5.Zq.ZG c0;have et:l=l.take i++(l[i] :: l.drop (i+1)):=by
   conv=>lhs;rw[<-aw i l,a7 gj]
  have es:l.set i x=l.take i++(x :: l.drop (i+1)):=by rw[List.set_eq_take_append_cons_drop,if_pos gj]
  have ee:ZU Zv l=ZU Zv (l.take i)++(Zv l[i]++ZU Zv (l.drop (i+1))):=by
   have:=congrArg (ZU Zv) et;rw[Y6]at this;exact this
  have Zu5:ZU Zv (l.set i x)=ZU Zv (l.take i)++(Zv x++ZU Zv (l.drop (i+1))):=by
   have:=congrArg (ZU Zv) es;rw[Y6]at this;exact this
  have lt:(ZU Zv (l.take i)).length=i*8:=by rw[JX,aN];congr 1;omega
  have hw:wr h5 ⟨b,i*8,O⟩ (Zv x)=Q (h5.setIfInBounds b (K (ZU Zv (l.set i x)++ZG).toArray 133)):=by
   have ll:=JX l;have hmul:i*8+8<=(H l)*8:=pA;rw[Ye hg,if_pos ⟨by rw[U,ll];show i*8+8<=_;omega,rfl⟩,ee,ag,ag,Sj lt.symm (show (Zv x).length=(Zv l[i]).length from rfl),Zu5,ag,ag]
  have hbz:b<h5.size:=Za hg;have cO:¬h.size+1=b:=pA;have ZhT:¬h.size+2=b:=pA;have rb5:rd h5 ⟨h.size+1,1,O⟩ 2=Q [D t x.b.r,D t x.b.n]:=by rw[YL y5 (by simp[Zv])];rfl
  obtain⟨h6,jR⟩:=ZL (h5.setIfInBounds b (K (ZU Zv (l.set i x)++ZG).toArray 133):Hp);rw[<-jR]at hw;unfold Zv at hw;have y6:h6[h.size+1]? = Q (K (Zv x).toArray 133):=by rw[jR,Xg pA];exact y5
  have z6:h6[h.size+2]? = Q (K [D t 0,D t 0,J O 0 0].toArray 105):=by rw[jR,Xg pA];exact z5
  have B6:Zj h.size h h6:=by rw[jR];exact B5.Zt pA _
  have o6:QF (h.size+3) 133 Zv 8 h6 (J (Q ⟨b,0,O⟩) (H l) c4) (l.set i x):=by
   refine⟨?_⟩;rw[bB];exact UO.iI pA (by rw[jR];exact ZV hg) (by rw[JX,bB]) NV hc4
  have rb6:rd h6 ⟨h.size+1,1,O⟩ 2=Q [D t x.b.r,D t x.b.n]:=by rw[YL y6 (by simp[Zv])];rfl
  have w6:=fin h6 [D t x.b.r,D t x.b.n,J (Q ⟨b,0,O⟩) (H l) c4] rfl rfl z6;have Zu6:h.size+2<h6.size:=Za z6;simp -implicitDefEqProofs only[go_sem,n1,Zag,r5,S,a4,hw,rb6,w6,Zu6,e];refine⟨⟨_,rfl,?_⟩,B6.Zt pA _⟩;rw[zh srt gj heq];exact (o6.Ya pA _).mono pA
 .have hn:JH l x=l.take i++x :: l.drop i:=zi srt hi hlo hhi;simp -implicitDefEqProofs only[go_sem,r5];obtain⟨h6,jR⟩:=ZL (h5.push (K (Zv x).toArray 133):Hp);have e6:h5.push (K #[Value.int t x.Zu,D t x.b.r,D t x.b.n,D t x.k,D t x.c,D t x.s,D t x.nm,D t x.v] 133)=h6:=jR.symm;rw[e6];have b6:Zj h5.size h5 h6:=by rw[jR];exact Zj.push (R _) _
  have s6:h6.size=h5.size+1:=by rw[jR];simp
  have v6:h6[h5.size]? = Q (K (Zv x).toArray 133):=by rw[jR];exact Zc
  clear e6 jR;have B6:=B5.trans (b6.mono pA);have o6:=(o5.Yz b6 (R _)).mono (B':=h.size+3) pA;have Y7:c4≠0->∀b o,p4=Q ⟨b,o,O⟩->b≠h5.size:=by
   intro c0 b o hp;subst hp;obtain⟨b',_,_,Qi,EL,_⟩:=o5.Zq.ZG c0;simp only[Option.some.injEq,Addr.mk.injEq]at Qi;have:=Za EL;omega
  refine (sA T h6 (h.size+3) p4 c4 i l x h5.size o6 pA hi pA v6 Y7).use ?_;rintro w7 h7 ⟨o7,b7⟩;obtain⟨p7,c7,rfl,_⟩:=o7.open;have s7:=b7.size;have B7:=B6.trans (b7.mono pA);have y7:=b7.get pA (b6.get pA y5);have z7:=b7.get pA (b6.get pA z5);have rb7:rd h7 ⟨h.size+1,1,O⟩ 2=Q [D t x.b.r,D t x.b.n]:=by rw[YL y7 (by simp[Zv])];rfl
  obtain⟨L,hL⟩:=ZL (l.take i++x :: l.drop i);rw[<-hL]at o7 hn ⊢;have w7:=fin h7 [D t x.b.r,D t x.b.n,J p7 (H L) c7] rfl rfl z7;have FB:h.size+2<h7.size:=Za z7;simp -implicitDefEqProofs only[go_sem,rb7,w7,FB,e];refine⟨⟨_,rfl,?_⟩,B7.Zt pA _⟩;rw[hn];exact (o7.Ya pA _).mono pA
def Ue(l:List Nat)(n:Int)(x:Vt):Int:=if ¬Y0 l n then 5 else if ¬Yo x then 2 else QC l n 33
def Uy(x:Vt):List Nat:=2 :: (ZC [x.Zu.toNat,x.b.r.toNat,x.b.n.toNat]++ZC [x.k.toNat,x.c.toNat,x.s.toNat,x.nm.toNat,x.v.toNat])
theorem jS(x:Vt):Xn ⟨0,0⟩ [] x=if Yo x then 0 else 2:=by
 have e:JG ⟨0,0⟩ []=0:=rfl;unfold Xn;rw[if_neg (by rw[e];decide)];by_cases q:Yo x
 .rw[if_neg (fun hn=>hn q),if_pos q,if_neg];intro hb;have q1:=q.2.1.1.1;rcases hb with hb|⟨hb,_⟩<;>simp at hb<;>omega
 .rw[if_pos q,if_neg q]
theorem Zak(h:Hp)(v:aO)(n:Int)(l:List Nat)(x:Vt)(s:Bs h v l)(hl:(H l)<=140737488355328)(tk:Tk h):
  Zd aD T 113 #[aa [v,D t n].toArray,aa (Zv x).toArray] h fun v' h'=>Pk h.size h' v' l n (Ue l n x) (YV (Uy x))/\Zj h.size h h':=by
 obtain⟨p,c,rfl,_⟩:=s.open;refine Zd.XS [_,_] Tryz.func113 ?_;unfold Pk Zv;simp -implicitDefEqProofs only[go_sem];obtain⟨h0,Qe⟩:=ZL (((h.push (K [J p (H l) c,D t n].toArray 100)).push (K (Zv x).toArray 133)).push (K [J O 0 0,D t 0].toArray 100):Hp);have b0:Zj h.size h h0:=by rw[Qe];exact (((Zj.refl _ _).add _).add _).add _
 have s0:h0.size=h.size+3:=by rw[Qe];simp
 have t0:h0[h.size]? = Q (K [J p (H l) c,D t n].toArray 100):=by
  rw[Qe,W,if_neg VL,W,if_neg IQ,Zc]
 have t1:h0[h.size+1]? = Q (K (Zv x).toArray 133):=by
  rw[Qe,W,if_neg IQ,W,if_pos IQ]
 have x0:h0[h.size+2]? = Q (K [J O 0 0,D t 0].toArray 100):=by
  rw[Qe,W,if_pos IQ]
 have e0:((h.push (K #[Value.slice p (H l) c,D t n] 100)).push (K #[Value.int t x.Zu,D t x.b.r,D t x.b.n,D t x.k,D t x.c,D t x.s,D t x.nm,D t x.v] 133)).push (K #[Value.slice O 0 0,D t 0] 100)=h0:=Qe.symm;rw[e0];clear e0 Qe;refine (U0 T h0 _ n l (s.Yz b0) hl).use ?_;rintro _ h1 ⟨b1,o1⟩;have s1:=b1.size;have B1:Zj h.size h h1:=b0.trans (b1.mono pA);have x1:=b1.get pA x0;by_cases ok:Y0 l n
 case neg=>
  have ee:Ue l n x=5:=by unfold Ue;rw[if_pos ok]
  rw[if_neg (show ¬((H l)<=100000/\0<=n/\n<=(H l)) from ok)]at o1;subst o1;rw[ee];have y2:=Ye x1 0;have ZT:h.size+2<h1.size:=pA;have Y7:¬h.size+2=h1.size:=pA;simp -implicitDefEqProofs only[go_sem,y2,Y7,ZT];exact⟨⟨_,rfl,YB.nil _ _ _⟩,(B1.Zt pA _).YX VL _⟩
 rw[if_pos (show ((H l)<=100000/\0<=n/\n<=(H l)) from ok)]at o1;obtain⟨w,rfl,o1⟩:=o1;obtain⟨pw,cw,rfl,_⟩:=o1.open;have bt1:=b1.get pA t1;have r1:rd h1 ⟨h.size+1,0,O⟩ 8=Q (Zv x):=Zy bt1 rfl;unfold Zv at r1;have cO:¬h.size+1=h1.size:=pA;simp -implicitDefEqProofs only[go_sem,r1,cO];have b2:Zj h1.size h1 (h1.push (K [J pw (H l) cw,D t n].toArray 100)):=Zj.push (R _) _;refine (Ie T _ ⟨0,0⟩ (J O 0 0) [] x (QF.nil 0 133 Zv 8 _).ts IQ).use ?_;rintro _ h3 ⟨⟨w1,rfl,q1⟩,b3⟩;have B3:Zj h1.size h1 h3:=b2.trans (b3.mono b2.size);rw[jS]at q1 ⊢;obtain⟨p1,c1,BH,_⟩:=q1.open;have s3:=B3.size;have x3:=B3.get pA x1;have fZ:=B1.trans (B3.mono pA);by_cases may:Yo x
 case neg=>
  have ee:Ue l n x=2:=by unfold Ue;rw[if_neg (fun hn=>hn ok),if_pos may]
  rw[if_neg may]at BH;rw[ee,if_neg may];subst BH;have y2:=Ye x3 0;have ZT:h.size+2<h3.size:=pA;have Y7:¬h.size+2=h3.size:=pA;unfold XC;simp -implicitDefEqProofs only[go_sem,y2,Y7,ZT];exact⟨⟨_,rfl,YB.nil _ _ _⟩,(fZ.Zt pA _).YX VL _⟩
 have ee:Ue l n x=QC l n 33:=by unfold Ue;rw[if_neg (fun hn=>hn ok),if_neg (fun hn=>hn may)]
 rw[if_pos may]at BH;rw[ee,if_pos may];obtain⟨⟨m1,m2⟩,⟨⟨m3,m4⟩,m5,m6⟩,mc⟩:=may;obtain⟨xs,⟨br,bn⟩,xk,xc,xss,xn,xv⟩:=x;simp only at m1 m2 m3 m4 m5 m6 mc;obtain⟨k,c2,s2,nm,vv,rfl,rfl,rfl,rfl,rfl,_⟩:=IR mc;obtain⟨sl,rfl⟩:∃r:Nat,xs=r:=⟨xs.toNat,pA⟩
 obtain⟨r,rfl⟩:∃r:Nat,br=r:=⟨br.toNat,pA⟩
 obtain⟨m,rfl⟩:∃m:Nat,bn=m:=⟨bn.toNat,pA⟩
 unfold Uy;rw[if_pos rfl]at BH;subst BH;unfold XC;have t3:=B3.get pA (b1.get pA t0);have t13:=B3.get pA bt1;have rc:rd h3 ⟨h.size+1,3,O⟩ 5=Q (Ua k c2 s2 nm vv):=by rw[YL t13 (by simp[Zv])];rfl
 unfold Ua at rc;have Zu7:¬h.size+1=h3.size:=pA;simp -implicitDefEqProofs only[go_sem,rc,Zu7];obtain⟨g0,hg0⟩:=ZL (h3.push (K [D t (r:Nat),D t (m:Nat),J p1 (JH [] ⟨sl,⟨r,m⟩,k,c2,s2,nm,vv⟩).length c1].toArray 105):Hp);have e3:h3.push (K #[Value.int t (r:Nat),D t (m:Nat),J p1 (JH [] ⟨sl,⟨r,m⟩,k,c2,s2,nm,vv⟩).length c1] 105)=g0:=hg0.symm;rw[e3];have bg0:Zj h3.size h3 g0:=by rw[hg0];exact Zj.push (R _) _
 have sg0:g0.size=h3.size+1:=by rw[hg0];simp
 clear e3 hg0;refine (KL T g0 k c2 s2 nm vv).use ?_;rintro _ g ⟨⟨wc,rfl,sC⟩,qI⟩;rw[mc,if_pos rfl]at sC;simp only[S]at sC ⊢;rw[mc];have lC:(ZC [k,c2,s2,nm,vv]).length=20:=by rw[ZN];rfl
 generalize ZC [k,c2,s2,nm,vv]=CB at *;obtain⟨pc,cc,rfl,_⟩:=sC.open;have bg:Zj h3.size h3 g:=bg0.trans (qI.mono pA);have sg:h3.size+1<=g.size:=by have:=qI.size;omega
 have Bg:Zj h.size h g:=fZ.trans (bg.mono pA);have x4g:=bg.get pA x3;have t4:=bg.get pA t3;have t14:=bg.get pA t13;have r0:rd g ⟨h.size,0,O⟩ 2=Q [J p (H l) c,D t n]:=Zy t4 rfl;have c0:V.hc g ⟨h.size+1,0,O⟩=Q (D t (sl:Nat)):=by rw[Zn t14];rfl
 have yU:V.hc g ⟨h.size+1,1,O⟩=Q (D t (r:Nat)):=by rw[Zn t14];rfl
 have zf:V.hc g ⟨h.size+1,2,O⟩=Q (D t (m:Nat)):=by rw[Zn t14];rfl
 have k0:h.size<g.size:=pA;have k1:h.size+1<g.size:=pA;simp -implicitDefEqProofs only[go_sem];refine VS.w (g.size) [18,19] (.q 0 (.q 2 (.q 3 (.q 4 (.q 5 (.q 6 (.q 7 (.q 8 (.q 9 (.q 13 (.or 1 (.s 10 (.s 11 (.s 12 (.s 14 (.s 15 (.q 16 (.q 17 (.w 18 (.w 19 .nil))))))))) (.s 10 (.or 1 (.s 11 (.s 12 (.s 14 (.s 15 (.q 16 (.q 17 (.w 18 (.w 19 .nil)))))))) (.s 11 (.s 1 (.s 12 (.s 14 (.s 15 (.q 16 (.q 17 (.w 18 (.w 19 .nil)))))))))))))))))))))) mixed vM ?_;simp -implicitDefEqProofs only[go_sem,r0,c0,yU,zf,k0,k1];refine⟨?_,?_,?_⟩
 .have o0:YB g.size 5 (g.push (K (([2]:List Nat).map bv).toArray 5)) (J (Q ⟨g.size,0,O⟩) 1 1) [2]:=YB.made aaa (R _);have B0:Zj g.size g ((g.push (K (([2]:List Nat).map bv).toArray 5)).push (K (([sl,r,m]:List Nat).map nv).toArray 3)):=(Zj.push (R _) _).YX IQ _;have o00:=o0.push (K (([sl,r,m]:List Nat).map nv).toArray 3);have si:NT ((g.push (K (([2]:List Nat).map bv).toArray 5)).push (K (([sl,r,m]:List Nat).map nv).toArray 3)) (J (Q ⟨(g.push (K (([2]:List Nat).map bv).toArray 5)).size,0,O⟩) 3 3) [sl,r,m]:=Ti _ _;have e1:(g.push (K (([2]:List Nat).map bv).toArray 5)).size=g.size+1:=IQ;rw[e1]at si;refine (Rx T _ _ [sl,r,m] si IQ (by intro x hx;simp only[bo,bc,or_false]at hx;omega)).use ?_;rintro w5 h5 ⟨o5,b5⟩;have BB:=B0.trans (b5.mono B0.size);have o1:=o00.Yz b5 (R _);have s4:=o5.bs;simp -implicitDefEqProofs only[go_sem,BB];refine ZK (E:=5) (B:=g.size) Xl a5 TA Sn Sm o1 BB.size s4 (by rw[ZN];simp) ?_;intro w6 h6 o6 b6 _;have B6:Zj g.size g h6:=BB.trans b6;have zQ:YB g.size 5 h6 w6 (2 :: ZC [sl,r,m]):=o6;have l6:(2 :: ZC [sl,r,m]).length=13:=by simp only[am,ZN,a6]
  simp -implicitDefEqProofs only[go_sem,B6];refine ZK (E:=5) (B:=g.size) Xl a5 TA Sn Sm zQ B6.size (sC.Yz B6) pA ?_;intro w7 h7 o7 b7 _;have B7:Zj g.size g h7:=B6.trans b7;have EM:=Bg.trans (B7.mono pA);have o7':YB g.size 5 h7 w7 (2 :: (ZC [sl,r,m]++CB)):=o7;have el:(2 :: (ZC [sl,r,m]++CB)).length=33:=by rw[am,U,lC,ZN];rfl
  simp -implicitDefEqProofs only[go_sem,B7];refine (Rw T h7 _ w7 n l (2 :: (ZC [sl,r,m]++CB)) (s.Yz EM) hl o7'.bs pA (tk.Qj EM)).use ?_;rintro _ h8 ⟨⟨w8,rfl,o8⟩,b8⟩;rw[el]at o8 ⊢;have B8:Zj g.size g h8:=B7.trans (b8.mono B7.size);have Bh8:=EM.trans (b8.mono EM.size);have x8:=B8.get pA x4g;have y8:=Ye x8 0;have Zal:h.size+2<h8.size:=Za x8;generalize YV (2 :: (ZC [sl,r,m]++CB))=FR at *;obtain⟨E,hE⟩:=ZL (QC l n 33);rw[<-hE]at o8 ⊢;obtain⟨z,hz⟩:∃z:Int,z=if E=0 then n else 0:=⟨_,rfl⟩
  rw[<-hz];obtain⟨pz,cz,rfl,_⟩:=o8.open;simp -implicitDefEqProofs only[go_sem,B8,y8,Zal];refine⟨⟨_,rfl,?_⟩,Bh8.Zt pA _⟩;exact (o8.Ya (by have:=B7.size;omega) _).mono (by have:=B7.size;omega)
 .have B0a:Zj g.size g (g.push (K (([sl,r,m]:List Nat).map nv).toArray 3)):=Zj.push (R _) _;have o0:YB g.size 5 ((g.push (K (([sl,r,m]:List Nat).map nv).toArray 3)).push (K (([2]:List Nat).map bv).toArray 5)) (J (Q ⟨(g.push (K (([sl,r,m]:List Nat).map nv).toArray 3)).size,0,O⟩) 1 1) [2]:=(YB.made aaa (R _)).mono IQ;have B0:Zj g.size g ((g.push (K (([sl,r,m]:List Nat).map nv).toArray 3)).push (K (([2]:List Nat).map bv).toArray 5)):=B0a.YX IQ _;have si0:NT (g.push (K (([sl,r,m]:List Nat).map nv).toArray 3)) (J (Q ⟨g.size,0,O⟩) 3 3) [sl,r,m]:=Ti _ _;have si:=si0.Yz (Zj.push (R _) (K (([2]:List Nat).map bv).toArray 5));have e1:(g.push (K (([sl,r,m]:List Nat).map nv).toArray 3)).size=g.size+1:=IQ;rw[e1]at o0;refine (Rx T _ _ [sl,r,m] si IQ (by intro x hx;simp only[bo,bc,or_false]at hx;omega)).use ?_;rintro w5 h5 ⟨o5,b5⟩;have BB:=B0.trans (b5.mono B0.size);have o1:=o0.Yz b5 (R _);have s4:=o5.bs;simp -implicitDefEqProofs only[go_sem,BB];refine ZK (E:=5) (B:=g.size) Xl a5 TA Sn Sm o1 BB.size s4 (by rw[ZN];simp) ?_;intro w6 h6 o6 b6 _;have B6:Zj g.size g h6:=BB.trans b6;have zQ:YB g.size 5 h6 w6 (2 :: ZC [sl,r,m]):=o6;have l6:(2 :: ZC [sl,r,m]).length=13:=by simp only[am,ZN,a6]
  simp -implicitDefEqProofs only[go_sem,B6];refine ZK (E:=5) (B:=g.size) Xl a5 TA Sn Sm zQ B6.size (sC.Yz B6) pA ?_;intro w7 h7 o7 b7 _;have B7:Zj g.size g h7:=B6.trans b7;have EM:=Bg.trans (B7.mono pA);have o7':YB g.size 5 h7 w7 (2 :: (ZC [sl,r,m]++CB)):=o7;have el:(2 :: (ZC [sl,r,m]++CB)).length=33:=by rw[am,U,lC,ZN];rfl
  simp -implicitDefEqProofs only[go_sem,B7];refine (Rw T h7 _ w7 n l (2 :: (ZC [sl,r,m]++CB)) (s.Yz EM) hl o7'.bs pA (tk.Qj EM)).use ?_;rintro _ h8 ⟨⟨w8,rfl,o8⟩,b8⟩;rw[el]at o8 ⊢;have B8:Zj g.size g h8:=B7.trans (b8.mono B7.size);have Bh8:=EM.trans (b8.mono EM.size);have x8:=B8.get pA x4g;have y8:=Ye x8 0;have Zal:h.size+2<h8.size:=Za x8;generalize YV (2 :: (ZC [sl,r,m]++CB))=FR at *;obtain⟨E,hE⟩:=ZL (QC l n 33);rw[<-hE]at o8 ⊢;obtain⟨z,hz⟩:∃z:Int,z=if E=0 then n else 0:=⟨_,rfl⟩
  rw[<-hz];obtain⟨pz,cz,rfl,_⟩:=o8.open;simp -implicitDefEqProofs only[go_sem,B8,y8,Zal];refine⟨⟨_,rfl,?_⟩,Bh8.Zt pA _⟩;exact (o8.Ya (by have:=B7.size;omega) _).mono (by have:=B7.size;omega)
 .have B0a:Zj g.size g (g.push (K (([sl,r,m]:List Nat).map nv).toArray 3)):=Zj.push (R _) _;have si:NT (g.push (K (([sl,r,m]:List Nat).map nv).toArray 3)) (J (Q ⟨g.size,0,O⟩) 3 3) [sl,r,m]:=Ti _ _;refine (Rx T _ _ [sl,r,m] si IQ (by intro x hx;simp only[bo,bc,or_false]at hx;omega)).use ?_;rintro w5 h5 ⟨o5,b5⟩;have BB5:=B0a.trans (b5.mono B0a.size);have BB:Zj g.size g (h5.push (K (([2]:List Nat).map bv).toArray 5)):=BB5.YX BB5.size _;have o1:YB g.size 5 (h5.push (K (([2]:List Nat).map bv).toArray 5)) (J (Q ⟨h5.size,0,O⟩) 1 1) [2]:=(YB.made aaa (R _)).mono BB5.size;have s4:=o5.bs.Yz (Zj.push (R h5.size) (K (([2]:List Nat).map bv).toArray 5));simp -implicitDefEqProofs only[go_sem,BB5,BB];refine ZK (E:=5) (B:=g.size) Xl a5 TA Sn Sm o1 BB.size s4 (by rw[ZN];simp) ?_;intro w6 h6 o6 b6 _;have B6:Zj g.size g h6:=BB.trans b6;have zQ:YB g.size 5 h6 w6 (2 :: ZC [sl,r,m]):=o6;have l6:(2 :: ZC [sl,r,m]).length=13:=by simp only[am,ZN,a6]
  simp -implicitDefEqProofs only[go_sem,B6];refine ZK (E:=5) (B:=g.size) Xl a5 TA Sn Sm zQ B6.size (sC.Yz B6) pA ?_;intro w7 h7 o7 b7 _;have B7:Zj g.size g h7:=B6.trans b7;have EM:=Bg.trans (B7.mono pA);have o7':YB g.size 5 h7 w7 (2 :: (ZC [sl,r,m]++CB)):=o7;have el:(2 :: (ZC [sl,r,m]++CB)).length=33:=by rw[am,U,lC,ZN];rfl
  simp -implicitDefEqProofs only[go_sem,B7];refine (Rw T h7 _ w7 n l (2 :: (ZC [sl,r,m]++CB)) (s.Yz EM) hl o7'.bs pA (tk.Qj EM)).use ?_;rintro _ h8 ⟨⟨w8,rfl,o8⟩,b8⟩;rw[el]at o8 ⊢;have B8:Zj g.size g h8:=B7.trans (b8.mono B7.size);have Bh8:=EM.trans (b8.mono EM.size);have x8:=B8.get pA x4g;have y8:=Ye x8 0;have Zal:h.size+2<h8.size:=Za x8;generalize YV (2 :: (ZC [sl,r,m]++CB))=FR at *;obtain⟨E,hE⟩:=ZL (QC l n 33);rw[<-hE]at o8 ⊢;obtain⟨z,hz⟩:∃z:Int,z=if E=0 then n else 0:=⟨_,rfl⟩
  rw[<-hz];obtain⟨pz,cz,rfl,_⟩:=o8.open;simp -implicitDefEqProofs only[go_sem,B8,y8,Zal];refine⟨⟨_,rfl,?_⟩,Bh8.Zt pA _⟩;exact (o8.Ya (by have:=B7.size;omega) _).mono (by have:=B7.size;omega)
structure UP where
 p:YA
 l:List Vt
def dh(b:List Nat):Vt->Vt:=fun v=>⟨v.Zu,v.b,XH b 0,XH b 4,XH b 8,XH b 12,XH b 16⟩
def JK(a:UP)(b:List Nat):Option UP:=
 if (H b)=9/\b.getD 0 0=1 then (if YI a.p a.l ⟨XH b 1,XH b 5⟩=0 then Q ⟨⟨XH b 1,XH b 5⟩,a.l⟩ else O)
 else if (H b)=33/\b.getD 0 0=2 then (if QA (b.drop 13)≠0 then O else
  if Xn a.p a.l (dh (b.drop 13) ⟨XH b 1,⟨XH b 5,XH b 9⟩,0,0,0,0,0⟩)=0 then Q ⟨⟨XH b 5,XH b 9⟩,JH a.l (dh (b.drop 13) ⟨XH b 1,⟨XH b 5,XH b 9⟩,0,0,0,0,0⟩)⟩ else O)
 else O
def Ag(B:Nat)(h':Hp)(v':aO)(a:UP)(b:List Nat):Prop:=∃P p m c,v'=.tuple [aa (XC P (J p m c)).toArray,ae (JK a b).isSome].toArray/\∀x,JK a b=Q x->P=x.p/\QF B 133 Zv 8 h' (J p m c) x.l
theorem Uf(l:List Nat)(k i:Nat):XH (l.drop k) i=XH l (k+i):=by
 have e:∀j,(l.drop k).getD j 0=l.getD (k+j) 0:=fun j=>by rw[ba,ba,List.getElem?_drop]
 unfold XH;rw[e,e,e,e];rfl
theorem ZdV(h:Hp)(v:aO)(l:List Nat)(s:Bs h v l)(hi:4<=(H l))(hl:(H l)<=140737488355328):
  Zd aD T 96 #[v] h fun v' h'=>v'=D t (XH l 0:Nat)/\h'=h:=by
 obtain⟨p,c,rfl,WB⟩:=s.VM;refine Zd.XS [_] Tryz.func96 ?_;obtain⟨b,o,rfl,hb,XL⟩:=WB (by intro e;subst e;simp at hi);have c0:=XL 0 pA;have c1:=XL 1 pA;have c2:=XL 2 pA;have c3:=XL 3 pA;have w0:=Z4 s.byte 0;have w1:=Z4 s.byte 1;have w2:=Z4 s.byte 2;have w3:=Z4 s.byte 3;have e4:=By w0 w1 w2 w3;have n0:(0:Int)<(H l):=pA;have n1:(1:Int)<(H l):=pA;have n2:(2:Int)<(H l):=pA;have n3:(3:Int)<(H l):=pA;rw[be]at c0;unfold XH;rw[a4,a4,a4];generalize l.getD 0 0=a0 at *;generalize l.getD 1 0=a1 at *;generalize l.getD 2 0=a2 at *;generalize l.getD 3 0=a3 at *;simp -implicitDefEqProofs only[go_sem];refine VS.q mixed vM ?_;simp -implicitDefEqProofs only[go_sem,c0,c1,c2,c3,n0,n1,n2,n3,e4]
 trace_state
theorem OL(h:Hp)(bb oo d d' m m0:Nat)(b:List Nat)(k:Nat)(s:Bs h (J (Q ⟨bb,oo,O⟩) m0 d) b)(hm0:(H b)=m0)(hk:k+4<=m0)(hm:m=m0-k)(hl:m0<=100000):
  Zd aD T 96 #[J (Q ⟨bb,oo+k,O⟩) m d'] h fun v' h'=>v'=D t (XH b k:Nat)/\h'=h:=by
 subst hm;have s1:=Ph s (k:=k) (by omega) hm0 d';have:=ZdV T h _ (b.drop k) s1 (by rw[al];omega) (by rw[al];omega);rw[Uf]at this;exact this
theorem jT(l:List Nat)(h:QA l=0):Fb l=[D t (XH l 0),D t (XH l 4),D t (XH l 8),D t (XH l 12),D t (XH l 16)]:=by
 unfold Fb;rw[if_pos h];rfl
theorem sE(l:List Nat)(h:¬QA l=0):Fb l=[D t 0,D t 0,D t 0,D t 0,D t 0]:=by
 unfold Fb;rw[if_neg h];rfl
set_option maxHeartbeats 1000000 in
theorem Zam(h:Hp)(P:YA)(pv:Option Addr)(cv:Nat)(l:List Vt)(q:Option Addr)(m d:Nat)(b:List Nat)(s:Ts Zv 8 h (J pv (H l) cv) l)(sb:Bs h (J q m d) b)(hm:(H b)=m)(hl:(H l)<=1000000)(hb:m<=1000)(hd:m<=d):
  Zd aD T 76 #[aa (XC P (J pv (H l) cv)).toArray,J q m d] h fun v' h'=>Ag h.size h' v' ⟨P,l⟩ b/\Zj h.size h h':=by
 refine Zd.Lt [_,_] Tryz.func76 ?_;unfold XC;simp -implicitDefEqProofs only[go_sem];obtain⟨h0,Qe⟩:=ZL ((h.push (K (XC P (J pv (H l) cv)).toArray 105)).push (K [D t 0,D t 0,J O 0 0].toArray 105):Hp);have b0:Zj h.size h h0:=by rw[Qe];exact ((Zj.refl _ _).add _).add _
 have s0:h0.size=h.size+2:=by rw[Qe];simp
 have x0:h0[h.size]? = Q (K (XC P (J pv (H l) cv)).toArray 105):=by
  rw[Qe,W,if_neg (by simp),Zc]
 have z0:h0[h.size+1]? = Q (K [D t 0,D t 0,J O 0 0].toArray 105):=by
  rw[Qe,W,if_pos (by simp)]
 have e0:(h.push (K #[Value.int t P.r,D t P.n,J pv (H l) cv] 105)).push (K #[Value.int t 0,D t 0,J O 0 0] 105)=h0:=Qe.symm;rw[e0];clear e0 Qe;have fin:∀(G:Hp) (k:Nat) (w:List aO),(H w)=3->w.all YE=true->G[k]? = Q (K [D t 0,D t 0,J O 0 0].toArray 105)->wr G ⟨k,0,O⟩ w=Q (G.setIfInBounds k (K w.toArray 105)):=by
  intro G k w h3 h1 hx;rw[Ye (b:=k) hx 0 w,ZW (by rw[h3];rfl),if_pos ⟨by rw[h3];simp,h1⟩]
 have sb0:=sb.Yz b0;have s0':=s.Yz b0;have r0:rd h0 ⟨h.size,0,O⟩ 3=Q [D t P.r,D t P.n,J pv (H l) cv]:=Zy x0 rfl;have k0:h.size<h0.size:=by omega
 have k1:h.size+1<h0.size:=by omega
 unfold Ag;by_cases n9:m=9
 .subst n9;have k9:((9:Nat):Int)=9:=rfl;obtain⟨q',d',hv,hh⟩:=sb0.VM;simp only[Value.slice.injEq]at hv;obtain⟨rfl,_,rfl⟩:=hv;obtain⟨bb,oo,rfl,TC,XL⟩:=hh (by intro e;subst e;simp at hm);have c0:=XL 0 (by omega);rw[be]at c0;by_cases q1:b.getD 0 0=1
  case neg=>
   have q1':¬((b.getD 0 0:Nat):Int)=1:=by omega
   have e:JK ⟨P,l⟩ b=O:=by
    unfold JK;rw[if_neg (fun hn=>q1 hn.2),if_neg (fun hn=>by omega)]
   have wz:=fin h0 (h.size+1) [D t P.r,D t P.n,J pv (H l) cv] rfl rfl z0;simp -implicitDefEqProofs only[go_sem,k9,c0,q1',e,r0,wz,k1];exact⟨⟨P,pv,(H l),cv,rfl,by simp⟩,b0.Zt (by omega) _⟩
  rw[q1]at c0;have e1:((1:Nat):Int)=1:=rfl;rw[e1]at c0;obtain⟨X,hX⟩:∃X:YA,X=⟨XH b 1,XH b 5⟩:=⟨_,rfl⟩
  have e:JK ⟨P,l⟩ b=if YI P l X=0 then Q ⟨X,l⟩ else O:=by
   unfold JK;rw[if_pos ⟨hm,q1⟩,hX]
  have call:∀G,Ts Zv 8 G (J pv (H l) cv) l->Zd aD T 95 #[aa #[D t P.r,D t P.n,J pv (H l) cv],aa #[D t (XH b 1:Nat),D t (XH b 5:Nat)]] G fun v' h'=>bM G.size h' v' P l X/\Zj G.size G h':=fun G sG=>by
   rw[hX];exact Pg T G P _ l _ sG (by omega)
  clear hX;have d1:¬d=1:=by omega
  have d5:¬d=5:=by omega
  have sbx:=sb0;simp -implicitDefEqProofs only[go_sem,k9,c0];refine VS.mono (N:=fun F' g'=>Zj h0.size h0 g'/\F' 4=ab (Q ⟨h.size+1,0,O⟩)/\F' 8=D t (YI P l X)/\∃A p1 c1,h0.size<=A/\F' 6=ab (Q ⟨A,0,O⟩)/\g'[A]? = Q (K (XC (if YI P l X=0 then X else ⟨0,0⟩) (J p1 (if YI P l X=0 then l else []).length c1)).toArray 105)/\QF h0.size 133 Zv 8 g' (J p1 (if YI P l X=0 then l else []).length c1) (if YI P l X=0 then l else [])) ?_ ?_ (fun _ _ _ h=>h) (fun _ _ h=>h)
  .refine VS.w (h0.size) [] (.q 0 (.q 1 (.q 2 (.q 4 (.q 5 (.or 3 (.or 6 (.q 7 (.or 8 (.q 9 (.q 10 (.q 11 (.q 12 (.s 13 (.s 14 (.q 15 (.q 16 .nil)))))))) (.s 13 (.s 8 (.q 9 (.q 10 (.q 11 (.q 12 (.s 14 (.q 15 (.q 16 .nil))))))))))) (.s 13 (.s 6 (.q 7 (.s 8 (.q 9 (.q 10 (.q 11 (.q 12 (.s 14 (.q 15 (.q 16 .nil)))))))))))) (.s 13 (.s 3 (.s 6 (.q 7 (.s 8 (.q 9 (.q 10 (.q 11 (.q 12 (.s 14 (.q 15 (.q 16 .nil)))))))))))))))))) mixed (by kernel_rfl) ?_;simp -implicitDefEqProofs only[go_sem,r0,k0,k9,d1,d5,c0,S]
   repeat' (first
     | with_reducible exact Zj.refl _ _
     | with_reducible exact Zj.push (by omega) _
     | (with_reducible refine (OL T _ bb oo d _ _ _ b 1 (by first|exact sbx|exact sbx.Yz (Zj.push (R _) _)) hm (by omega) rfl (by omega)).pure ?_;simp -implicitDefEqProofs only[go_sem,r0,k0,c0,S])
     | (with_reducible refine (OL T _ bb oo d _ _ _ b 5 (by first|exact sbx|exact sbx.Yz (Zj.push (R _) _)) hm (by omega) rfl (by omega)).pure ?_;simp -implicitDefEqProofs only[go_sem,r0,k0,c0,S])
     | with_reducible refine And.intro ?_ ?_)
   all_goals first
    | (refine (call h0 s0').use ?_
       rintro _ g1 ⟨⟨w1,w2,rfl,o1,o2⟩,b1⟩;obtain⟨p1,c1,rfl,_⟩:=o1.open;obtain⟨p2,c2,rfl,_⟩:=o2.open;generalize (if YI P l X=0 then X else ⟨0,0⟩)=Y at *;generalize (if YI P l X=0 then l else [])=L at *;generalize YI P l X=E at *;have s1:=b1.size;unfold XC;simp -implicitDefEqProofs only[go_sem,b1];exact⟨_,_,_,s1,rfl,Zc,o1.push _⟩)
    | (refine (call (h0.push (K [D t 0,D t 0,J O 0 0].toArray 105)) (s0'.Yz (Zj.push (R _) _))).use ?_
       rintro _ g1 ⟨⟨w1,w2,rfl,o1,o2⟩,b1⟩;obtain⟨p1,c1,rfl,_⟩:=o1.open;obtain⟨p2,c2,rfl,_⟩:=o2.open;generalize (if YI P l X=0 then X else ⟨0,0⟩)=Y at *;generalize (if YI P l X=0 then l else [])=L at *;generalize YI P l X=E at *;have B1:Zj h0.size h0 g1:=(Zj.push (R _) _).trans (b1.mono (by simp));have xA:=b1.get (by simp) Zc;have yA:=fin g1 h0.size [D t Y.r,D t Y.n,J p1 (H L) c1] rfl rfl xA;have hz:=Za xA;unfold XC;simp -implicitDefEqProofs only[go_sem,B1,yA,hz];exact⟨_,_,_,R _,rfl,ZV xA,(o1.Ya (b:=h0.size) (by simp) _).mono (by simp)⟩)
  .rintro F' g' ⟨hB,f4,f8,A,p1,c1,hA,f6,xA,oA⟩;have z1:=hB.get (by omega) z0;have k1':=Za z1;have rA:rd g' ⟨A,0,O⟩ 3=_:=Zy xA rfl;generalize hY:(if YI P l X=0 then X else ⟨0,0⟩)=Y at *;generalize hL:(if YI P l X=0 then l else [])=L at *;generalize YI P l X=E at *;unfold XC at rA;have wz:=fin g' (h.size+1) [D t Y.r,D t Y.n,J p1 (H L) c1] rfl rfl z1;have bb':Zj h.size h (g'.setIfInBounds (h.size+1) (K [D t Y.r,D t Y.n,J p1 (H L) c1].toArray 105)):=(b0.trans (hB.mono (by omega))).Zt (by omega) _;by_cases q:E=0
   .rw[if_pos q]at e hY hL;simp -implicitDefEqProofs only[go_sem,f4,f6,f8,rA,wz,k1',q,e];refine⟨⟨Y,p1,(H L),c1,rfl,fun x hx=>?_⟩,bb'⟩
    cases hx
    exact⟨hY.symm,by rw[hL];exact (oA.Ya (by omega) _).mono (by omega)⟩
   .rw[if_neg q]at e;simp -implicitDefEqProofs only[go_sem,f4,f6,f8,rA,wz,k1',q,e];exact⟨⟨Y,p1,(H L),c1,rfl,by simp⟩,bb'⟩
 have n9':¬(m:Int)=9:=by omega
 by_cases n33:m=33
 case neg=>
  have Zu9:¬(m:Int)=33:=by omega
  have e:JK ⟨P,l⟩ b=O:=by
   unfold JK;rw[if_neg (fun hn=>by omega),if_neg (fun hn=>by omega)]
  have wz:=fin h0 (h.size+1) [D t P.r,D t P.n,J pv (H l) cv] rfl rfl z0;simp -implicitDefEqProofs only[go_sem,n9',Zu9,e,r0,wz,k1];exact⟨⟨P,pv,(H l),cv,rfl,by simp⟩,b0.Zt (by omega) _⟩
 subst n33;have k33:((33:Nat):Int)=33:=rfl;clear n9';obtain⟨q',d',hv,hh⟩:=sb0.VM;simp only[Value.slice.injEq]at hv;obtain⟨rfl,_,rfl⟩:=hv;obtain⟨bb,oo,rfl,TC,XL⟩:=hh (by intro e;subst e;simp at hm);have c0:=XL 0 (by omega);rw[be]at c0;by_cases q2:b.getD 0 0=2
 case neg=>
  have q2':¬((b.getD 0 0:Nat):Int)=2:=by omega
  have e:JK ⟨P,l⟩ b=O:=by
   unfold JK;rw[if_neg (fun hn=>by omega),if_neg (fun hn=>q2 hn.2)]
  have wz:=fin h0 (h.size+1) [D t P.r,D t P.n,J pv (H l) cv] rfl rfl z0;simp -implicitDefEqProofs only[go_sem,k33,c0,q2',e,r0,wz,k1];exact⟨⟨P,pv,(H l),cv,rfl,by simp⟩,b0.Zt (by omega) _⟩
 rw[q2]at c0;have e2:((2:Nat):Int)=2:=rfl;rw[e2]at c0;have d13:¬d=13:=by omega
 have d33:(33:Int)<=(d:Int):=by omega
 have s13:=fun c'=>Ph sb0 (k:=13) (by omega) hm c';simp -implicitDefEqProofs only[go_sem,k33,c0,d13,d33,S];refine (DT T h0 _ (b.drop 13) (s13 _) (by rw[al];omega)).use ?_;rintro _ g ⟨rfl,bg⟩;have sg:=bg.size;by_cases q3:QA (b.drop 13)=0
 case neg=>
  have e:JK ⟨P,l⟩ b=O:=by
   unfold JK;rw[if_neg (fun hn=>by omega),if_pos ⟨hm,q2⟩,if_pos q3]
  rw[sE _ q3];have zg:=bg.get k1 z0;have xg:=bg.get k0 x0;have rg:rd g ⟨h.size,0,O⟩ 3=Q [D t P.r,D t P.n,J pv (H l) cv]:=Zy xg rfl;have wz:=fin g (h.size+1) [D t P.r,D t P.n,J pv (H l) cv] rfl rfl zg;have Zvb:¬h.size=g.size:=by omega
  have cO:¬h.size+1=g.size:=by omega
  have Zaj:h.size+1<g.size:=by omega
  simp -implicitDefEqProofs only[go_sem,q3,e,rg,wz,Zvb,cO,Zaj];exact⟨⟨P,pv,(H l),cv,rfl,by simp⟩,((b0.trans (bg.mono (by omega))).Zt (by omega) _).YX (by simp;omega) _⟩
 rw[jT _ q3,q3];obtain⟨X,hX⟩:∃X:Vt,X=dh (b.drop 13) ⟨XH b 1,⟨XH b 5,XH b 9⟩,0,0,0,0,0⟩:=⟨_,rfl⟩
 have e:JK ⟨P,l⟩ b=if Xn P l X=0 then Q ⟨X.b,JH l X⟩ else O:=by
  unfold JK;rw[if_neg (fun hn=>by omega),if_pos ⟨hm,q2⟩,if_neg (fun hn=>hn q3),<-hX];rw[show (⟨((XH b 5:Nat):Int),((XH b 9:Nat):Int)⟩:YA)=X.b by rw[hX];rfl]
 have call:∀G,Ts Zv 8 G (J pv (H l) cv) l->Zd aD T 97 #[aa #[D t P.r,D t P.n,J pv (H l) cv],aa #[D t (XH b 1:Nat),D t (XH b 5:Nat),D t (XH b 9:Nat),D t (XH (b.drop 13) 0:Nat),D t (XH (b.drop 13) 4:Nat),D t (XH (b.drop 13) 8:Nat),D t (XH (b.drop 13) 12:Nat),D t (XH (b.drop 13) 16:Nat)]] G fun v' h'=>nF G.size h' v' P l X/\Zj G.size G h':=fun G sG=>by
  rw[hX];exact Ie T G P _ l _ sG (by omega)
 clear hX;generalize XH (b.drop 13) 0=y0 at *;generalize XH (b.drop 13) 4=y4 at *;generalize XH (b.drop 13) 8=y8 at *;generalize XH (b.drop 13) 12=y12 at *;generalize XH (b.drop 13) 16=y16 at *;obtain⟨h1,Xp⟩:=ZL (g.push (K [D t (y0:Nat),D t (y4:Nat),D t (y8:Nat),D t (y12:Nat),D t (y16:Nat)].toArray 25):Hp);have e1:g.push (K #[Value.int t (y0:Nat),D t (y4:Nat),D t (y8:Nat),D t (y12:Nat),D t (y16:Nat)] 25)=h1:=Xp.symm;simp -implicitDefEqProofs only[go_sem];rw[e1];have b1:Zj h0.size h0 h1:=by rw[Xp];exact bg.YX sg _
 have s1h:h1.size=g.size+1:=by rw[Xp];simp
 have c1h:h1[g.size]? = Q (K [D t (y0:Nat),D t (y4:Nat),D t (y8:Nat),D t (y12:Nat),D t (y16:Nat)].toArray 25):=by rw[Xp];exact Zc
 clear e1 Xp;have x1:=b1.get k0 x0;have z1h:=b1.get k1 z0;have r1:rd h1 ⟨h.size,0,O⟩ 3=Q [D t P.r,D t P.n,J pv (H l) cv]:=Zy x1 rfl;have rc1:rd h1 ⟨g.size,0,O⟩ 5=Q [D t (y0:Nat),D t (y4:Nat),D t (y8:Nat),D t (y12:Nat),D t (y16:Nat)]:=Zy c1h rfl;have c0h:hc h1 ⟨bb,oo,O⟩=Q (D .u8 2):=by rw[b1.hc (by exact TC)];exact c0
 have k0h:h.size<h1.size:=by omega
 have kch:g.size<h1.size:=by omega
 have sbx:=sb0.Yz b1;have s1':=s0'.Yz b1;have d1:¬d=1:=by omega
 have d5:¬d=5:=by omega
 have d9:¬d=9:=by omega
 have B1:Zj h.size h h1:=b0.trans (b1.mono (by omega));refine VS.mono (N:=fun F' g'=>Zj h1.size h1 g'/\F' 4=ab (Q ⟨h.size+1,0,O⟩)/\F' 10=D t (Xn P l X)/\∃A p1 c1,h1.size<=A/\F' 11=ab (Q ⟨A,0,O⟩)/\g'[A]? = Q (K (XC (if Xn P l X=0 then X.b else ⟨0,0⟩) (J p1 (if Xn P l X=0 then JH l X else []).length c1)).toArray 105)/\QF h1.size 133 Zv 8 g' (J p1 (if Xn P l X=0 then JH l X else []).length c1) (if Xn P l X=0 then JH l X else [])) ?_ ?_ (fun _ _ _ h=>h) (fun _ _ h=>h)
 .refine VS.w (h1.size) [] (.q 0 (.q 1 (.q 2 (.q 4 (.q 5 (.q 7 (.q 8 (.q 11 (.or 3 (.or 6 (.or 9 (.q 10 (.q 12 (.or 13 (.q 14 (.q 15 (.q 16 (.s 17 (.s 18 (.q 19 .nil)))))) (.s 17 (.s 13 (.q 14 (.q 15 (.q 16 (.s 18 (.q 19 .nil)))))))))) (.s 17 (.s 9 (.q 10 (.q 12 (.s 13 (.q 14 (.q 15 (.q 16 (.s 18 (.q 19 .nil))))))))))) (.s 17 (.s 6 (.s 9 (.q 10 (.q 12 (.s 13 (.q 14 (.q 15 (.q 16 (.s 18 (.q 19 .nil)))))))))))) (.s 17 (.s 3 (.s 6 (.s 9 (.q 10 (.q 12 (.s 13 (.q 14 (.q 15 (.q 16 (.s 18 (.q 19 .nil))))))))))))))))))))) mixed (by kernel_rfl) ?_;simp -implicitDefEqProofs only[go_sem,r1,rc1,k0h,kch,k33,d1,d5,d9,c0h,S]
  repeat' (first
    | with_reducible exact Zj.refl _ _
    | with_reducible exact Zj.push (by omega) _
    | (with_reducible refine (OL T _ bb oo d _ _ _ b 1 (by first|exact sbx|exact sbx.Yz (Zj.push (R _) _)) hm (by omega) rfl (by omega)).pure ?_;simp -implicitDefEqProofs only[go_sem,r1,rc1,k0h,kch,c0h,S])
    | (with_reducible refine (OL T _ bb oo d _ _ _ b 5 (by first|exact sbx|exact sbx.Yz (Zj.push (R _) _)) hm (by omega) rfl (by omega)).pure ?_;simp -implicitDefEqProofs only[go_sem,r1,rc1,k0h,kch,c0h,S])
    | (with_reducible refine (OL T _ bb oo d _ _ _ b 9 (by first|exact sbx|exact sbx.Yz (Zj.push (R _) _)) hm (by omega) rfl (by omega)).pure ?_;simp -implicitDefEqProofs only[go_sem,r1,rc1,k0h,kch,c0h,S])
    | with_reducible refine And.intro ?_ ?_)
  all_goals first
   | (refine (call h1 s1').use ?_
      rintro _ g1 ⟨⟨w1,rfl,o1⟩,b1⟩;obtain⟨p1,c1,rfl,_⟩:=o1.open;generalize (if Xn P l X=0 then X.b else ⟨0,0⟩)=Y at *;generalize (if Xn P l X=0 then JH l X else [])=L at *;generalize Xn P l X=E at *;have s1:=b1.size;unfold XC;simp -implicitDefEqProofs only[go_sem,b1];exact⟨_,_,_,s1,rfl,Zc,o1.push _⟩)
   | (refine (call (h1.push (K [D t 0,D t 0,J O 0 0].toArray 105)) (s1'.Yz (Zj.push (R _) _))).use ?_
      rintro _ g1 ⟨⟨w1,rfl,o1⟩,b1⟩;obtain⟨p1,c1,rfl,_⟩:=o1.open;generalize (if Xn P l X=0 then X.b else ⟨0,0⟩)=Y at *;generalize (if Xn P l X=0 then JH l X else [])=L at *;generalize Xn P l X=E at *;have B1:Zj h1.size h1 g1:=(Zj.push (R _) _).trans (b1.mono (by simp));have xA:=b1.get (by simp) Zc;have yA:=fin g1 h1.size [D t Y.r,D t Y.n,J p1 (H L) c1] rfl rfl xA;have hz:=Za xA;unfold XC;simp -implicitDefEqProofs only[go_sem,B1,yA,hz];exact⟨_,_,_,R _,rfl,ZV xA,(o1.Ya (b:=h1.size) (by simp) _).mono (by simp)⟩)
 .rintro F' g' ⟨hB,f4,f8,A,p1,c1,hA,f6,xA,oA⟩;have z1:=hB.get (by omega) z1h;have k1':=Za z1;have rA:rd g' ⟨A,0,O⟩ 3=_:=Zy xA rfl;generalize hY:(if Xn P l X=0 then X.b else ⟨0,0⟩)=Y at *;generalize hL:(if Xn P l X=0 then JH l X else [])=L at *;generalize Xn P l X=E at *;unfold XC at rA;have wz:=fin g' (h.size+1) [D t Y.r,D t Y.n,J p1 (H L) c1] rfl rfl z1;have bb':Zj h.size h (g'.setIfInBounds (h.size+1) (K [D t Y.r,D t Y.n,J p1 (H L) c1].toArray 105)):=(B1.trans (hB.mono (by omega))).Zt (by omega) _;by_cases q:E=0
  .rw[if_pos q]at e hY hL;simp -implicitDefEqProofs only[go_sem,f4,f6,f8,rA,wz,k1',q,e];refine⟨⟨Y,p1,(H L),c1,rfl,fun x hx=>?_⟩,bb'⟩
   cases hx
   exact⟨hY.symm,by rw[hL];exact (oA.Ya (by omega) _).mono (by omega)⟩
  .rw[if_neg q]at e;simp -implicitDefEqProofs only[go_sem,f4,f6,f8,rA,wz,k1',q,e];exact⟨⟨Y,p1,(H L),c1,rfl,by simp⟩,bb'⟩
theorem jU{h:Hp}{bp op m c k n off m' c':Nat}{l:List Nat}(s:Bs h (J (Q ⟨bp,op,O⟩) m c) l)(hm:(H l)=m)(hk:k+n<=m)(ho:off=op+k)(H6:m'=n):Bs h (J (Q ⟨bp,off,O⟩) m' c') ((l.drop k).take n):=by
 subst ho;subst H6;have s1:=Ph s (k:=k) (by omega) hm c';have e:m-k=(l.drop k).length:=by rw[al];omega
 rw[e]at s1;exact s1.Mq (by rw[al];omega) c'
def Vr(l:List Nat)(k:Nat):Nat:=1+l.getD k 0
def Y9(l:List Nat)(a:UP)(k:Nat):Option (UP × Nat):=
 if k<(H l)/\k+Vr l k+4<=(H l)/\(T6 ((l.drop k).take (Vr l k))).take 4=(l.drop (k+Vr l k)).take 4 then
  (JK a ((l.drop (k+1)).take (Vr l k-1))).map fun x=>(x,k+(Vr l k+4))
 else O
inductive Rec(l:List Nat):UP->Nat->UP->Nat->Prop
 | stop {a:UP} {k:Nat}:Y9 l a k=O->Rec l a k a k
 | go {a a' r:UP} {k k' j:Nat}:Y9 l a k=Q (a',k')->Rec l a' k' r j->Rec l a k r j
def JN:UP:=⟨⟨0,0⟩,[]⟩
def Zao(B:Nat)(h':Hp)(v':aO)(l:List Nat)(n:Int):Prop:=∃(r:UP) (k:Nat) (E:Int) (w:aO),v'=.tuple [aa (XC r.p w).toArray,D t k,D t E].toArray/\QF B 133 Zv 8 h' w r.l/\k<=(H l)/\(H r.l)<=k /\
 if Y0 l n then E=0/\Rec l JN 0 r k else E=5/\r=JN/\k=0
theorem di{l:List Vt}(hs:Srt l)(v:Vt):(JH l v).length<=(H l)+1:=by
 have:∀l:List Vt,(l.filter (fun x=>decide (x.Zu<v.Zu))).length+(l.filter (fun x=>decide (v.Zu<x.Zu))).length<=(H l):=by
  intro l
  induction l with
  | nil=>simp
  | cons x l ih=>
   simp only[List.filter_cons,am];by_cases q1:x.Zu<v.Zu
   .rw[if_pos (by simpa using q1),if_neg VL,am];omega
   .rw[if_neg (by simpa using q1)];by_cases q2:v.Zu<x.Zu
    .rw[if_pos (by simpa using q2),am];omega
    .rw[if_neg (by simpa using q2)];omega
 have:=this l;unfold JH;rw[U,am];omega
theorem Ah{a x:UP}{b:List Nat}(h:JK a b=Q x):(H x.l)<=(H a.l)+1:=by
 unfold JK at h;split at h
 .split at h
  .cases h;simp
  .cases h
 .split at h
  .split at h
   .cases h
   .split at h
    .rename_i q
     cases h
     have:JG a.p a.l=0:=by
      unfold Xn at q;split at q
      .cases q
      .rename_i hn;simpa using hn
     exact di (Fp this) _
    .cases h
  .cases h
set_option maxHeartbeats 2000000 in
theorem FL(h:Hp)(v:aO)(n:Int)(l:List Nat)(s:Bs h v l)(hl:(H l)<=140737488355328)(tk:Tk h):
  Zd aD T 57 #[aa [v,D t n].toArray] h fun v' h'=>Zao h.size h' v' l n/\Zj h.size h h':=by
 obtain⟨p,c,rfl,_⟩:=s.open;refine Zd.Lt [_] Tryz.func57 ?_;unfold Zao;simp -implicitDefEqProofs only[go_sem];obtain⟨h0,Qe⟩:=ZL ((h.push (K [J p (H l) c,D t n].toArray 100)).push (K [D t 0,D t 0,J O 0 0].toArray 105):Hp);have b0:Zj h.size h h0:=by rw[Qe];exact ((Zj.refl _ _).add _).add _
 have s0:h0.size=h.size+2:=by rw[Qe];simp
 have z0:h0[h.size+1]? = Q (K [D t 0,D t 0,J O 0 0].toArray 105):=by
  rw[Qe,W,if_pos IQ]
 have e0:(h.push (K #[Value.slice p (H l) c,D t n] 100)).push (K #[Value.int t 0,D t 0,J O 0 0] 105)=h0:=Qe.symm;rw[e0];clear e0 Qe;have fin:∀(G:Hp) (w:List aO),(H w)=3->w.all YE=true->G[h.size+1]? = Q (K [D t 0,D t 0,J O 0 0].toArray 105)->wr G ⟨h.size+1,0,O⟩ w=Q (G.setIfInBounds (h.size+1) (K w.toArray 105)):=by
  intro G w h3 h1 hx;rw[Ye (b:=h.size+1) hx 0 w,ZW (by rw[h3];rfl),if_pos ⟨by rw[h3];simp,h1⟩]
 refine (U0 T h0 _ n l (s.Yz b0) hl).use ?_;rintro _ h1 ⟨b1,o1⟩;have s1:=b1.size;have B1:Zj h.size h h1:=b0.trans (b1.mono pA);have z1:=b1.get pA z0;by_cases ok:Y0 l n
 case neg=>
  rw[if_neg (show ¬((H l)<=100000/\0<=n/\n<=(H l)) from ok)]at o1;subst o1;have y2:=fin h1 [D t 0,D t 0,J O 0 0] rfl rfl z1;have ZT:h.size+1<h1.size:=pA;have Y7:¬h.size+1=h1.size:=pA;simp -implicitDefEqProofs only[go_sem,y2,Y7,ZT];refine⟨⟨JN,0,5,J O 0 0,rfl,QF.nil _ _ _ _ _,bl _,R _,?_⟩,(B1.Zt pA _).YX VL _⟩;rw[if_neg ok];exact⟨rfl,rfl,rfl⟩
 rw[if_pos (show ((H l)<=100000/\0<=n/\n<=(H l)) from ok)]at o1;obtain⟨w,rfl,o1⟩:=o1;obtain⟨pw,cw,rfl,hcw⟩:=o1.open;have l1:=ok.1;obtain⟨h2,Vq⟩:=ZL ((h1.push (K [J pw (H l) cw,D t n].toArray 100)).push (K [D t 0,D t 0,J O 0 0].toArray 105):Hp);have e2:(h1.push (K #[Value.slice pw (H l) cw,D t n] 100)).push (K #[Value.int t 0,D t 0,J O 0 0] 105)=h2:=Vq.symm;simp -implicitDefEqProofs only[go_sem];rw[e2];have b2:Zj h1.size h1 h2:=by rw[Vq];exact ((Zj.refl _ _).add _).add _
 have s2:h2.size=h1.size+2:=by rw[Vq];simp
 have t2:h2[h1.size]? = Q (K [J pw (H l) cw,D t n].toArray 100):=by
  rw[Vq,W,if_neg IQ,Zc]
 have a2:h2[h1.size+1]? = Q (K [D t 0,D t 0,J O 0 0].toArray 105):=by
  rw[Vq,W,if_pos IQ]
 clear e2 Vq;have z2:=b2.get pA z1;obtain⟨A,hA⟩:=ZL (h1.size+1);rw[<-hA]at a2 ⊢;have sw:=o1.bs.Yz b2;have B2:Zj h.size h h2:=B1.trans (b2.mono pA);have tk2:Tk h2:=tk.Qj B2;have blo:=o1.Zq.ZZ;refine VS.Yk (fun F g=>Zj A h2 g/\F 2=ab (Q ⟨h.size+1,0,O⟩)/\F 5=ab (Q ⟨h1.size,0,O⟩)/\F 7=ab (Q ⟨A,0,O⟩)/\∃(k:Nat) (a:UP) (p1:Option Addr) (c1:Nat),k<=(H l)/\F 8=D t k/\g[A]? = Q (K (XC a.p (J p1 (H a.l) c1)).toArray 105)/\QF (A+1) 133 Zv 8 g (J p1 (H a.l) c1) a.l/\(H a.l)<=k/\∀r j,Rec l a k r j->Rec l JN 0 r j)
  (fun F _=>(H l)-(vi (F 8)).toNat) rfl ⟨Zj.refl _ _,rfl,rfl,rfl,0,JN,O,0,bl _,rfl,a2,QF.nil _ _ _ _ _,bl _,fun _ _ h=>h⟩ ?_
 rintro F g ⟨hg,f2,f5,f7,k,a,p1,c1,hk,f8,xa,oa,hal,ZmN⟩;have tg:=hg.get pA t2;have zg:=hg.get pA z2;have hzA:=Za xa;have fact:∀G,Zj g.size g G->V.hc G ⟨h1.size,0,O⟩=Q (J pw (H l) cw)/\rd G ⟨A,0,O⟩ 3=Q [D t a.p.r,D t a.p.n,J p1 (H a.l) c1] /\
   wr G ⟨h.size+1,0,O⟩ [D t a.p.r,D t a.p.n,J p1 (H a.l) c1]=Q (G.setIfInBounds (h.size+1) (K [D t a.p.r,D t a.p.n,J p1 (H a.l) c1].toArray 105))/\h.size+1<G.size/\Zj A h2 G /\
   G[A]? = Q (K (XC a.p (J p1 (H a.l) c1)).toArray 105)/\QF (A+1) 133 Zv 8 G (J p1 (H a.l) c1) a.l/\Bs G (J pw (H l) cw) l:=by
  intro G hG;have tG:=hG.get pA tg;have zG:=hG.get pA zg;have xG:=hG.get pA xa;have bG:Zj A h2 G:=hg.trans (hG.mono pA);exact⟨by rw[Zn tG];rfl,Zy xG rfl,fin G _ rfl rfl zG,Za zG,bG,xG,oa.Yz hG (R _),o1.bs.Yz (b2.trans (bG.mono pA))⟩
 have done:∀G,Zj g.size g G->Y9 l a k=O->(∃(r:UP) (k':Nat) (E:Int) (w:aO),Value.tuple [aa (XC a.p (J p1 (H a.l) c1)).toArray,D t (k:Nat),D t 0].toArray=.tuple [aa (XC r.p w).toArray,D t (k':Nat),D t E].toArray/\QF h.size 133 Zv 8 (G.setIfInBounds (h.size+1) (K [D t a.p.r,D t a.p.n,J p1 (H a.l) c1].toArray 105)) w r.l/\k'<=(H l)/\(H r.l)<=k'/\if Y0 l n then E=0/\Rec l JN 0 r k' else E=5/\r=JN/\k'=0)/\Zj h.size h (G.setIfInBounds (h.size+1) (K [D t a.p.r,D t a.p.n,J p1 (H a.l) c1].toArray 105)):=by
  intro G hG e;obtain⟨_,_,_,_,bG,_,oG,_⟩:=fact G hG;refine⟨⟨a,k,0,_,rfl,(oG.Ya pA _).mono pA,hk,hal,?_⟩,(B2.trans (bG.mono pA)).Zt pA _⟩;rw[if_pos ok];exact⟨rfl,ZmN _ _ (.stop e)⟩
 obtain⟨rt,ra,wf,hlz,_,_,_,swg⟩:=fact g (Zj.refl _ _);by_cases ZT:k<(H l)
 case neg=>
  have Z7:¬(k:Int)<(H l):=pA;have e:Y9 l a k=O:=by unfold Y9;rw[if_neg (fun hn=>ZT hn.1)]
  simp -implicitDefEqProofs only[go_sem,f2,f5,f7,f8,rt,Z7,ra,wf,hlz];exact done g (Zj.refl _ _) e
 have Z7:(k:Int)<(H l):=pA;obtain⟨q',d',hv,hh⟩:=swg.VM;simp only[Value.slice.injEq,true_and]at hv;obtain⟨rfl,rfl⟩:=hv;obtain⟨bx,ox,rfl,hbx,XL⟩:=hh (by intro e;subst e;simp at ZT);have rx:=XL k ZT;have hx:=Z4 swg.byte k;obtain⟨N,hN⟩:=ZL (Vr l k);have hN':N=1+l.getD k 0:=hN;have e1:(1:Int)+((l.getD k 0:Nat):Int)=(N:Int):=pA;have e2:(N:Int)+4=((N+4:Nat):Int):=pA;have d1:¬cw=k:=pA;have n0:(0:Int)<(((H l)-k:Nat):Int):=pA;have n1:(0:Int)<=(k:Int):=pA;have n2:(k:Int)<=((H l):Int):=pA;by_cases hsh:(H l)-k<N+4
 case pos=>
  have ZhU:(((H l)-k:Nat):Int)<((N+4:Nat):Int):=pA;have e:Y9 l a k=O:=by unfold Y9;rw[<-hN,if_neg (fun hn=>by omega)]
  simp -implicitDefEqProofs only[go_sem,f2,f5,f7,f8,rt,Z7,ra,wf,hlz,rx,e1,e2,d1,n0,n1,n2,ZhU,S];exact done g (Zj.refl _ _) e
 have ZhU:¬(((H l)-k:Nat):Int)<((N+4:Nat):Int):=pA;have n3:(0:Int)<=(N:Int):=pA;have n4:(N:Int)<=((cw-k:Nat):Int):=pA;simp -implicitDefEqProofs only[go_sem,f2,f5,f7,f8,rt,Z7,rx,e1,e2,d1,n0,n1,n2,n3,n4,ZhU,S];have sN:Bs g (J (Q ⟨bx,ox+k,O⟩) N (cw-k)) ((l.drop k).take N):=jU swg rfl pA rfl rfl;have Bg:Zj h.size h g:=B2.trans (hg.mono pA);refine (KV T g _ _ sN (tk.Qj Bg)).use ?_;rintro _ g1 ⟨⟨w5,rfl,o5⟩,b5⟩;have e0:Pj ((l.drop k).take N).length=0:=by unfold Pj;rw[aN,al,if_neg pA]
 rw[e0,if_pos rfl]at o5;rw[e0];have ml:=Qv ((l.drop k).take N);obtain⟨M,hM⟩:=ZL (T6 ((l.drop k).take N));rw[<-hM]at o5 ml;obtain⟨p5,c5,rfl,hc5⟩:=o5.open;have sM:=o5.bs;obtain⟨rt1,ra1,wf1,Zvd,bA1,xA1,oA1,sw1⟩:=fact g1 b5;have s5:=b5.size;have h4:(4:Int)<=(c5:Int):=pA;have n5:((N+4:Nat):Int)<=((cw-k:Nat):Int):=pA;have n6:(N:Int)<=((N+4:Nat):Int):=pA;have n7:(0:Int)<=((N+4:Nat):Int):=pA;have d2:¬cw-k=N:=pA;have hMd:Bs g1 (J p5 4 c5) (M.take 4):=sM.Mq pA c5;have hRd:Bs g1 (J (Q ⟨bx,ox+k+N,O⟩) (N+4-N) (cw-k-N)) ((l.drop (k+N)).take 4):=jU sw1 rfl pA pA pA;simp -implicitDefEqProofs only[go_sem,f2,f5,f7,f8];refine VS.w (g1.size) [] (.q 0 (.q 1 (.q 2 (.q 3 (.q 4 (.q 5 (.q 6 (.s 7 (.q 8 .nil))))))))) mixed vM ?_;simp -implicitDefEqProofs only[go_sem,f2,f5,f7,f8,h4,e2,n3,n5,n6,n7,d2,S];refine (Bx T g1 _ _ (M.take 4) ((l.drop (k+N)).take 4) hMd hRd aad).pure ?_;have eR:(l.drop (k+N)).take 4=(l.drop (k+Vr l k)).take 4:=by rw[<-hN]
 by_cases heq:M.take 4=(l.drop (k+N)).take 4
 case neg=>
  have hd:decide (M.take 4=(l.drop (k+N)).take 4)=false:=decide_eq_false heq;have e:Y9 l a k=O:=by
   unfold Y9;rw[<-hN,<-hM,if_neg (fun hn=>heq hn.2.2)]
  rw[hd];simp -implicitDefEqProofs only[go_sem,f2,f5,f7,f8,ra1,wf1,Zvd];exact done g1 b5 e
 have hd:decide (M.take 4=(l.drop (k+N)).take 4)=true:=decide_eq_true heq;rw[hd];obtain⟨bd,jg⟩:=ZL ((l.drop (k+1)).take (N-1));have ZfS:Y9 l a k=(JK a bd).map fun x=>(x,k+(N+4)):=by
  unfold Y9;rw[<-hN,<-hM,if_pos ⟨ZT,pA,heq⟩,jg]
 have lbd:(H bd)=N-1:=by rw[jg,aN,al];omega
 have sbd:Bs g1 (J (Q ⟨bx,ox+k+1,O⟩) (N-1) (cw-k-1)) bd:=by rw[jg];exact jU sw1 rfl pA pA rfl
 have call:∀G,Zj g1.size g1 G->Zd aD T 76 #[aa #[D t a.p.r,D t a.p.n,J p1 (H a.l) c1],J (Q ⟨bx,ox+k+1,O⟩) (N-1) (cw-k-1)] G fun v' h'=>Ag G.size h' v' a bd/\Zj G.size G h':=fun G hG=>
  Zam T G a.p p1 c1 a.l _ (N-1) (cw-k-1) bd (oA1.ts.Yz hG) (sbd.Yz hG) lbd pA pA pA
 have n8:(1:Int)<=(N:Int):=pA;have d3:¬cw-k=1:=pA;have q1:A<g1.size:=pA;have ZmP:∀(G:Hp) (b:Nat) (z w:List aO),(H z)=3->(H w)=3->w.all YE=true->G[b]? = Q (K z.toArray 105)->wr G ⟨b,0,O⟩ w=Q (G.setIfInBounds b (K w.toArray 105)):=by
  intro G b z w hz h3 h1 hx;rw[Ye (b:=b) hx 0 w,ZW (by rw[h3,hz]),if_pos ⟨by rw[h3,hz];simp,h1⟩]
 simp -implicitDefEqProofs only[go_sem,f2,f5,f7,f8];refine VS.mono (N:=fun F' g'=>Zj g1.size g1 g'/\F' 2=ab (Q ⟨h.size+1,0,O⟩)/\F' 5=ab (Q ⟨h1.size,0,O⟩)/\F' 7=ab (Q ⟨A,0,O⟩)/\F' 8=D t k/\F' 10=D t N/\F' 14=ae (JK a bd).isSome/\∃(A':Nat) (P:YA) (p m:_) (c:Nat),g1.size<=A'/\F' 13=ab (Q ⟨A',0,O⟩)/\g'[A']? = Q (K (XC P (J p m c)).toArray 105)/\∀x,JK a bd=Q x->P=x.p/\QF g1.size 133 Zv 8 g' (J p m c) x.l) ?_ ?_ (fun _ _ _ h=>h) (fun _ _ h=>h)
 .refine VS.w (g1.size) [] (.q 0 (.q 1 (.q 2 (.q 3 (.or 4 (.q 5 (.q 6 (.q 7 (.s 8 (.s 9 (.q 10 .nil)))))) (.s 8 (.s 4 (.q 5 (.q 6 (.q 7 (.s 9 (.q 10 .nil)))))))))))) mixed vM ?_;simp -implicitDefEqProofs only[go_sem,f2,f5,f7,f8,ra1,q1,n3,n4,n8,d3,S];refine⟨?_,?_⟩
  .refine (call g1 (Zj.refl _ _)).use ?_;rintro _ g2 ⟨⟨P,p2,m2,c2,rfl,h2x⟩,b6⟩;have s6:=b6.size;unfold XC;simp -implicitDefEqProofs only[go_sem,f2,f5,f7,f8,b6];exact⟨_,_,_,_,_,s6,rfl,Zc,fun x hx=>⟨(h2x x hx).1,(h2x x hx).2.push _⟩⟩
  .refine (call (g1.push (K [D t 0,D t 0,J O 0 0].toArray 105)) (Zj.push (R _) _)).use ?_;rintro _ g2 ⟨⟨P,p2,m2,c2,rfl,h2x⟩,b6⟩;have B6:Zj g1.size g1 g2:=(Zj.push (R _) _).trans (b6.mono IQ);have xA:=b6.get IQ Zc;have yA:=ZmP g2 g1.size _ [D t P.r,D t P.n,J p2 m2 c2] rfl rfl rfl xA;have hz:=Za xA;unfold XC;simp -implicitDefEqProofs only[go_sem,f2,f5,f7,f8,B6,yA,hz];exact⟨_,_,_,_,_,R _,rfl,ZV xA,fun x hx=>⟨(h2x x hx).1,((h2x x hx).2.Ya (b:=g1.size) IQ _).mono IQ⟩⟩
 rintro F' g' ⟨hB,f2,f5,f7,f8,f10,f14,A',P,p2,m2,c2,hA',f13,xA',hx'⟩;have sB:=hB.size;have hgG:Zj g.size g g':=b5.trans (hB.mono s5);obtain⟨rt2,sF,wf2,Zve,bA2,xA2,oA2,sw2⟩:=fact g' hgG
 cases mJ:JK a bd with
 | none=>
  have e:Y9 l a k=O:=by rw[ZfS,mJ];rfl
  rw[mJ]at f14;simp -implicitDefEqProofs only[go_sem,f2,f5,f7,f8,f10,f14,sF,wf2,Zve];exact done g' hgG e
 | some x=>
  obtain⟨rfl,ox2⟩:=hx' x mJ;obtain⟨p3,c3,e3,_⟩:=ox2.open;simp only[Value.slice.injEq]at e3;obtain⟨rfl,rfl,rfl⟩:=e3;have e:Y9 l a k=Q (x,k+(N+4)):=by rw[ZfS,mJ];rfl
  have rA':rd g' ⟨A',0,O⟩ 3=Q [D t x.p.r,D t x.p.n,J p2 (H x.l) c2]:=Zy xA' rfl;have wA:=ZmP g' A _ [D t x.p.r,D t x.p.n,J p2 (H x.l) c2] rfl rfl rfl xA2;have zA:=Za xA2;have e4:(k:Int)+((N+4:Nat):Int)=((k+(N+4):Nat):Int):=pA;have lx:=Ah mJ;rw[mJ]at f14;simp -implicitDefEqProofs only[go_sem,f2,f5,f7,f8,f10,f13,f14,rA',wA,zA,e2,e4];refine⟨⟨bA2.Zt (R _) _,f2,f5,f7,k+(N+4),x,p2,c2,pA,rfl,ZV xA2,(ox2.Ya pA _).mono pA,pA,fun r j hr=>ZmN r j (.go e hr)⟩,?_⟩;simp only[vi,Zr,↓reduceIte,f8];omega
def Zap(B:Nat)(h':Hp)(v':aO)(l:List Nat)(n:Int):Prop:=∃(r:UP) (k:Nat) (E:Int) (w:aO),v'=.tuple [aa [w,D t (if E=0 then (if (k:Int)<n then (k:Int) else n) else 0)].toArray,D t E].toArray/\YB B 5 h' w (if E=0 then l.take k else [])/\k<=(H l) /\
 if Y0 l n then E=0/\Rec l JN 0 r k else E=5/\r=JN/\k=0
theorem sH(h:Hp)(v:aO)(n:Int)(l:List Nat)(s:Bs h v l)(Wx:RY v)(hl:(H l)<=140737488355328)(tk:Tk h):
  Zd aD T 56 #[aa [v,D t n].toArray] h fun v' h'=>Zap h.size h' v' l n/\Zj h.size h h':=by
 obtain⟨p,c,rfl,_⟩:=s.open;have Wx:(H l)<=c:=Wx;refine Zd.Lt [_] Tryz.func56 ?_;unfold Zap;simp -implicitDefEqProofs only[go_sem];obtain⟨h0,Qe⟩:=ZL ((h.push (K [J p (H l) c,D t n].toArray 100)).push (K [J O 0 0,D t 0].toArray 100):Hp);have b0:Zj h.size h h0:=by rw[Qe];exact ((Zj.refl _ _).add _).add _
 have s0:h0.size=h.size+2:=by rw[Qe];simp
 have t0:h0[h.size]? = Q (K [J p (H l) c,D t n].toArray 100):=by
  rw[Qe,W,if_neg IQ,Zc]
 have z0:h0[h.size+1]? = Q (K [J O 0 0,D t 0].toArray 100):=by
  rw[Qe,W,if_pos IQ]
 have e0:(h.push (K #[Value.slice p (H l) c,D t n] 100)).push (K #[Value.slice O 0 0,D t 0] 100)=h0:=Qe.symm;have e0':(h.push (K [Value.slice p (H l) c,D t n].toArray 100)).push (K [Value.slice O 0 0,D t 0].toArray 100)=h0:=Qe.symm
 first|rw[e0]|rw[e0']
 clear e0 e0' Qe;refine (FL T h0 _ n l (s.Yz b0) hl (tk.Qj b0)).use ?_;rintro _ h1 ⟨⟨r,k,E,w1,rfl,o1,hk,hr,q⟩,b1⟩;have s1:=b1.size;obtain⟨p1,c1,rfl,_⟩:=o1.open;unfold XC;obtain⟨h2,Vq⟩:=ZL (h1.push (K [D t r.p.r,D t r.p.n,J p1 (H r.l) c1].toArray 105):Hp);have b2:Zj h1.size h1 h2:=by rw[Vq];exact Zj.push (R _) _
 have s2:h2.size=h1.size+1:=by rw[Vq];simp
 have B2:Zj h.size h h2:=b0.trans ((b1.mono pA).trans (b2.mono pA));have t2:=b2.get pA (b1.get pA t0);have z2:=b2.get pA (b1.get pA z0);have y2:=Ye z2 0;have HM:h.size+1<h2.size:=pA;have eh2:h1.push (K #[Value.int t r.p.r,D t r.p.n,J p1 (H r.l) c1] 105)=h2:=Vq.symm;clear Vq;by_cases ok:Y0 l n
 case neg=>
  have q0:=q;rw[if_neg ok]at q;obtain⟨rfl,rfl,rfl⟩:=q;have z1:=b1.get pA z0;have y1:=Ye z1 0;have Y7:¬h.size+1=h1.size:=pA;have Zaj:h.size+1<h1.size:=pA;have B1:Zj h.size h h1:=b0.trans (b1.mono pA);simp -implicitDefEqProofs only[go_sem,y1,Y7,Zaj];refine⟨⟨JN,0,5,J O 0 0,rfl,YB.nil _ _ _,bl _,q0⟩,?_⟩;exact (B1.Zt pA _).YX VL _
 have q0:=q;rw[if_pos ok]at q;obtain⟨rfl,q⟩:=q;have l1:=ok.1;have r2:V.hc h2 ⟨h.size,0,O⟩=Q (J p (H l) c):=by rw[Zn t2];rfl
 have n2:V.hc h2 ⟨h.size,1,O⟩=Q (D t n):=by rw[Zn t2];rfl
 have k1:(0:Int)<=(k:Int):=pA;have k2:(k:Int)<=(c:Int):=pA;have q1:h.size<h2.size:=pA;simp -implicitDefEqProofs only[go_sem];rw[eh2];refine VS.w (h2.size) [10,11] (.q 0 (.q 1 (.q 2 (.q 3 (.q 5 (.q 6 (.q 7 (.q 8 (.s 4 (.q 9 (.w 10 (.w 11 .nil)))))))))))) mixed vM ?_;simp -implicitDefEqProofs only[go_sem,r2,n2,k1,k2,q1,S];refine (On T h2 _ (l.take k) ((s.Yz B2).Mq hk c) aad).use ?_;rintro w3 h3 ⟨o3,b3⟩;obtain⟨p3,c3,rfl,_⟩:=o3.open;have s3:=b3.size;have z3:=b3.get pA z2;have qQ:h.size+1<h3.size:=pA;have y3:=Ye z3 0;simp -implicitDefEqProofs only[go_sem,b3,y3,qQ];refine⟨⟨r,k,0,_,rfl,?_,hk,q0⟩,(B2.trans (b3.mono pA)).Zt pA _⟩;exact (o3.Ya pA _).mono pA
def Jg(rc:List Nat):List Nat:=D9 (UL (rc.getD 0 0)) (rc.drop 1)
def XD(l:List Nat)(i:Nat):Int:=((XH l (4*i):Nat):Int)
def Ai(PL:List Nat)(now:Int):Int:=Rv ((PL.take 22).getD 0 0:Nat) ((PL.take 22).getD 1 0:Nat) (XH (PL.take 22) 2:Nat) (XD (PL.drop 22) 0) (XD (PL.drop 22) 1) (XD (PL.drop 22) 2) (XD (PL.drop 22) 3) (XD (PL.drop 22) 4) now
def nG(PL:List Nat)(X:Nat)(now:Int):Int:=if XD (PL.drop 22) 0≠0/\XD (PL.drop 22) 1≠(X:Nat) then 11 else Ai PL now
def dj(PL:List Nat)(X:Nat)(now:Int):Int:=if QA (PL.drop 22)≠0 then QA (PL.drop 22) else nG PL X now
def dk(PL:List Nat)(X:Nat)(now:Int):Int:=if QS Wm (PL.take 22)≠0 then QS Wm (PL.take 22) else dj PL X now
def dm(PL:List Nat)(X:Nat)(now:Int):Int:=if (H PL)≠42 then 3 else dk PL X now
def Cd(te:Int)(PL:List Nat)(X:Nat)(now:Int):Int:=if te≠0 then te else dm PL X now
def YR(rc:List Nat)(now:Int):Int:=
 if (H rc)=0 then 13 else if Qn (rc.getD 0 0:Nat)≠0 then Qn (rc.getD 0 0:Nat) else
 Cd (Wl (UL (rc.getD 0 0)) 0 0 JS (rc.drop 1)) (Jg rc) (rc.getD 0 0) now
def dn(rc:List Nat)(now:Int):List aO:=if YR rc now=0 then Ua (XD ((Jg rc).drop 22) 0) (XD ((Jg rc).drop 22) 1) (XD ((Jg rc).drop 22) 2) (XD ((Jg rc).drop 22) 3) (XD ((Jg rc).drop 22) 4) else HK
theorem jV{key l:List Nat}(h:QS key l=0):BY key l=[D t (l.getD 0 0:Nat),D t (l.getD 1 0:Nat),D t (XH l 2:Nat)]:=by unfold BY;rw[if_pos h];rfl
theorem sI{key l:List Nat}(h:¬QS key l=0):BY key l=[D t 0,D t 0,D t 0]:=by unfold BY;rw[if_neg h];rfl
theorem sJ{l:List Nat}(h:QA l=0):Fb l=[D t (XD l 0),D t (XD l 1),D t (XD l 2),D t (XD l 3),D t (XD l 4)]:=by unfold Fb;rw[if_pos h];rfl
theorem sK{l:List Nat}(h:¬QA l=0):Fb l=[D t 0,D t 0,D t 0,D t 0,D t 0]:=by unfold Fb;rw[if_neg h];rfl
theorem U7{rc:List Nat}{now:Int}(h:¬YR rc now=0):dn rc now=[D t 0,D t 0,D t 0,D t 0,D t 0]:=by unfold dn;rw[if_neg h];rfl
theorem sL{rc:List Nat}{now:Int}(h:YR rc now=0):dn rc now=[D t (XD ((Jg rc).drop 22) 0),D t (XD ((Jg rc).drop 22) 1),D t (XD ((Jg rc).drop 22) 2),D t (XD ((Jg rc).drop 22) 3),D t (XD ((Jg rc).drop 22) 4)]:=by unfold dn;rw[if_pos h];rfl
set_option maxHeartbeats 2000000 in
theorem Zaq(h:Hp)(v:aO)(rc:List Nat)(now:Int)(s:Bs h v rc)(Wx:RY v)(hrl:(H rc)<=140737488355328)(tk:Tk h)(tn:AP 1 niv PP h):
  Zd aD T 66 #[v,D t now] h fun v' h'=>v'=.tuple [aa (dn rc now).toArray,D t (YR rc now)].toArray/\Zj h.size h h':=by
 obtain⟨p,c,rfl,_⟩:=s.open;have mE:(H rc)<=c:=Wx;refine Zd.Lt [_,_] Tryz.func66 ?_;simp -implicitDefEqProofs only[go_sem];obtain⟨h0,Qe⟩:=ZL (h.push (K [D t 0,D t 0,D t 0,D t 0,D t 0].toArray 25):Hp);have b0:Zj h.size h h0:=by rw[Qe];exact (Zj.refl _ _).add _
 have s0:h0.size=h.size+1:=by rw[Qe];simp
 have z0:h0[h.size]? = Q (K [D t 0,D t 0,D t 0,D t 0,D t 0].toArray 25):=by rw[Qe];exact Zc
 have e0:h.push (K #[Value.int t 0,D t 0,D t 0,D t 0,D t 0] 25)=h0:=Qe.symm;have e0':h.push (K [Value.int t 0,D t 0,D t 0,D t 0,D t 0].toArray 25)=h0:=Qe.symm
 first|rw[e0]|rw[e0']
 clear e0 e0' Qe;have fin:∀(G:Hp) (w:List aO),(H w)=5->w.all YE=true->G[h.size]? = Q (K [D t 0,D t 0,D t 0,D t 0,D t 0].toArray 25)->wr G ⟨h.size,0,O⟩ w=Q (G.setIfInBounds h.size (K w.toArray 25)):=by
  intro G w h3 h1 hx;rw[Ye (b:=h.size) hx 0 w,ZW (by rw[h3];rfl),if_pos ⟨by rw[h3];simp,h1⟩]
 by_cases l0:(H rc)=0
 case pos=>
  have l0':((H rc):Int)=0:=by omega
  have ee:=show YR rc now=13 by unfold YR;rw[if_pos l0]
  rw[U7 (by rw[ee];exact (by decide)),ee];have yz:=fin h0 [D t 0,D t 0,D t 0,D t 0,D t 0] rfl rfl z0;have hz:=Za z0;simp -implicitDefEqProofs only[go_sem,l0',yz,hz]
  try exact (b0).Zt (R _) _
 have l0':¬((H rc):Int)=0:=by omega
 have n0:(0:Int)<((H rc):Int):=by omega
 have n1:(1:Int)<=((H rc):Int):=by omega
 obtain⟨q',d',hv,hh⟩:=(s.Yz b0).VM;simp only[Value.slice.injEq,true_and]at hv;obtain⟨rfl,rfl⟩:=hv;obtain⟨bb,oo,rfl,TC,XL⟩:=hh (by intro e;subst e;simp at l0);have x0:=XL 0 (by omega);rw[be]at x0;have P9:=Z4 s.byte 0;obtain⟨X,hX⟩:=ZL (rc.getD 0 0);rw[<-hX]at x0 P9;obtain⟨PL,hPL⟩:=ZL (D9 (UL X) (rc.drop 1));obtain⟨te,hte⟩:=ZL (Wl (UL X) 0 0 JS (rc.drop 1));have ePL:Jg rc=PL:=by rw[hPL,hX];rfl
 have E00:YR rc now=if Qn (X:Nat)≠0 then Qn (X:Nat) else Cd te PL X now:=by
  unfold YR;rw[if_neg l0,<-hX,<-hte,ePL]
 simp -implicitDefEqProofs only[go_sem,l0',n0,x0];refine (FI T h0 _ (tk.Qj b0)).use ?_;rintro _ h1 ⟨⟨w1,rfl,k1,o1,f1⟩,b1⟩;have B1:=b0.trans (b1.mono b0.size);have s1:=b1.size;have z1:=b1.get (by omega) z0;by_cases ke:Qn (X:Nat)=0
 case neg=>
  generalize Qn (X:Nat)=KE at *;have ee:=show YR rc now=KE by rw[E00,if_pos ke]
  rw[U7 (by rw[ee];exact ke),ee];have yz:=fin h1 [D t 0,D t 0,D t 0,D t 0,D t 0] rfl rfl z1;have hz:=Za z1;simp -implicitDefEqProofs only[go_sem,ke,yz,hz]
  try exact (B1).Zt (R _) _
 have E0:YR rc now=Cd te PL X now:=by rw[E00,if_neg (fun hn=>hn ke)]
 rw[ke,if_pos rfl,S]at o1;rw[ke];have x7:X<=7:=by unfold Qn at ke;split at ke<;>omega
 obtain⟨p1,c1,rfl,WB⟩:=o1.open;have lk:=OJ X;obtain⟨P1,hP1⟩:=ZL (if c=1 then Q (⟨bb,oo,O⟩:Addr) else Q ⟨bb,oo+1,O⟩);have sD:Bs h1 (J P1 ((H rc)-1) (c-1)) (rc.drop 1):=by
  have sb1:=(s.Yz b0).Yz b1;by_cases hc:c=1
  .have mX:(H rc)=1:=by omega
   have hd:rc.drop 1=[]:=List.drop_eq_nil_of_le (by omega);rw[hd,mX,hc];exact⟨(UO.EX 0 0 1 h1 P1).sl,fun x hx=>by cases hx⟩
  .rw[hP1,if_neg hc];exact Ph sb1 (k:=1) (by omega) rfl _
 have Zvj:RY (J P1 ((H rc)-1) (c-1)):=by show (H rc)-1<=c-1;omega
 have htk:Zd aD T 81 #[aa #[J p1 (UL X).length c1,D t 0,D t 0,ae false,ae false,ae false,ae false,ae false,ae false,ae false,ae false],J P1 ((H rc)-1) (c-1)] h1 fun v' h'=>BV h1.size h' v' (UL X) 0 0 JS (rc.drop 1)/\Zj h1.size h1 h':=cK T h1 _ _ (UL X) (rc.drop 1) 0 0 JS rfl o1 sD k1 Zvj;simp -implicitDefEqProofs only[go_sem,n1]
 try rw[<-hP1]
 refine htk.use ?_;rintro _ h2 ⟨⟨cw,w2,rfl,⟨w3,rfl,o3⟩,o2⟩,b2⟩;rw[<-hte]at o2 o3 ⊢;rw[<-hPL]at o2;have B2:=B1.trans (b2.mono B1.size);have s2:=b2.size;have z2:=b2.get (by omega) z1;obtain⟨CC,hCC⟩:=ZL (Yc w3 (if te=0 then 0 else 0) (if te=0 then max 0 (((VD (rc.drop 1):Nat):Int)+1) else 0) (if te=0 then I4 0 JS (VD (rc.drop 1)) else JS));obtain⟨p3,c3,rfl,_⟩:=o3.open;have lsn:(if te=0 then I4 0 JS (VD (rc.drop 1)) else JS).length=8:=by
  split
  .exact SJ _ _
  .rfl
 have vD:(H CC)=11:=by rw[hCC];exact YP _ _ _ _ lsn
 have hCo:CC.all YE=true:=by rw[hCC];exact U1 _ _ _
 have hCp:Xd [Value.slice O 0 0,D t 0,D t 0,ae false,ae false,ae false,ae false,ae false,ae false,ae false,ae false] 0 CC=CC:=ZW (by rw[vD];rfl);have ZhW:(H CC)<=11:=by omega
 rw[<-hCC];obtain⟨h3,FH⟩:=ZL (h2.push (K CC.toArray 66):Hp);have b3:Zj h2.size h2 h3:=by rw[FH];exact Zj.push (R _) _
 have s3:h3.size=h2.size+1:=by rw[FH];simp
 have z3:=b3.get (by omega) z2;have B3:=B2.trans (b3.mono B2.size);have o23:=o2.Yz b3 (R _);obtain⟨p2,c2,rfl,EJ⟩:=o2.open;have yz2:=fin h2 [D t 0,D t 0,D t 0,D t 0,D t 0] rfl rfl z2;have ZhT:¬h.size=h2.size:=by omega
 have HM:h.size<h2.size:=by omega
 by_cases te0:te=0
 case neg=>
  have ee:YR rc now=te:=by rw[E0];unfold Cd;rw[if_pos te0]
  rw[U7 (by rw[ee];exact te0),ee];simp -implicitDefEqProofs only[go_sem,vD,hCo,hCp,ZhW,te0,yz2,ZhT,HM]
  try exact (B2.Zt (R _) _).YX (by simp;omega) _
 have E1:YR rc now=dm PL X now:=by rw[E0];unfold Cd;rw[if_neg (fun hn=>hn te0)]
 rw[if_pos te0]at o23 EJ
 try simp only[if_pos te0]
 by_cases l42:(H PL)=42
 case neg=>
  have ZdW:¬((H PL):Int)=42:=by omega
  have ee:YR rc now=3:=by rw[E1];unfold dm;rw[if_pos l42]
  rw[U7 (by rw[ee];decide),ee];simp -implicitDefEqProofs only[go_sem,vD,hCo,hCp,ZhW,te0,ZdW,yz2,ZhT,HM]
  try exact (B2.Zt (R _) _).YX (by simp;omega) _
 have ZdW:((H PL):Int)=42:=by omega
 have E2:YR rc now=dk PL X now:=by rw[E1];unfold dm;rw[if_neg (fun hn=>hn l42)]
 simp -implicitDefEqProofs only[go_sem,vD,hCo,hCp,ZhW,te0,ZdW];rw[<-FH];clear FH hCC o2 o3 hte;have n22:(22:Int)<=(c2:Int):=by omega
 have sPL:=o23.bs;have sT:Bs h3 (J p2 22 c2) (PL.take 22):=sPL.Mq (by omega) c2;have cT:RY (J p2 22 c2):=by show 22<=c2;omega
 obtain⟨PE,hPE⟩:=ZL (QS Wm (PL.take 22));obtain⟨tc,tr,tu,hT,Zvo⟩:∃tc tr tu:Int,BY Wm (PL.take 22)=[D t tc,D t tr,D t tu]/\(PE=0->tc=((PL.take 22).getD 0 0:Nat)/\tr=((PL.take 22).getD 1 0:Nat)/\tu=(XH (PL.take 22) 2:Nat)):=by
  rw[hPE];by_cases q:QS Wm (PL.take 22)=0
  .exact⟨_,_,_,jV q,fun _=>⟨rfl,rfl,rfl⟩⟩
  .exact⟨_,_,_,sI q,fun hn=>(q hn).elim⟩
 have tk3:=tk.Qj B3
 try simp -implicitDefEqProofs only[go_sem,ZdW]
 refine VS.mono (N:=fun F' g'=>Zj h3.size h3 g'/\F' 0=J (Q ⟨bb,oo,O⟩) (H rc) c/\F' 1=D t now/\F' 4=ab (Q ⟨h.size,0,O⟩)/\F' 9=J p2 (H PL) c2/\F' 7=D t PE/\∃A,h3.size<=A/\F' 10=ab (Q ⟨A,0,O⟩)/\g'[A]? = Q (K [D t tc,D t tr,D t tu].toArray 33)) ?_ ?_ (fun _ _ _ h=>h) (fun _ _ h=>h)
 .refine VS.w (h3.size) [] (.q 1 (.q 2 (.or 0 (.or 3 (.q 4 (.q 5 (.q 6 (.s 7 (.s 8 (.q 9 .nil)))))) (.s 7 (.s 3 (.q 4 (.q 5 (.q 6 (.s 8 (.q 9 .nil)))))))) (.s 7 (.s 0 (.s 3 (.q 4 (.q 5 (.q 6 (.s 8 (.q 9 .nil))))))))))) mixed (by kernel_rfl) ?_;simp -implicitDefEqProofs only[go_sem,n22];have zt:∀(G:Hp) (k:Nat) (w:List aO),(H w)=3->w.all YE=true->G[k]? = Q (K [D t 0,D t 0,D t 0].toArray 33)->wr G ⟨k,0,O⟩ w=Q (G.setIfInBounds k (K w.toArray 33)):=by
   intro G k w h3 h1 hx;rw[Ye (b:=k) hx 0 w,ZW (by rw[h3];rfl),if_pos ⟨by rw[h3];simp,h1⟩]
  refine⟨?_,?_⟩
  .refine (Ib T h3 tk3).use ?_;rintro w4 h4 ⟨⟨k4,o4⟩,b4⟩;have s4:=b4.size;simp -implicitDefEqProofs only[go_sem,b4,n22];refine⟨?_,?_⟩
   .refine (FE T h4 _ _ Wm (PL.take 22) o4 (sT.Yz b4) cT (tk3.Qj b4)).use ?_;rintro _ h5 ⟨rfl,b5⟩;have s5:=b5.size;have b35:Zj h3.size h3 h5:=b4.trans (b5.mono s4);rw[hT,<-hPE];simp -implicitDefEqProofs only[go_sem,b35];exact⟨_,by omega,rfl,Zc⟩
   .have bp:Zj h4.size h4 (h4.push (K [D t 0,D t 0,D t 0].toArray 33)):=Zj.push (R _) _;have bp3:Zj h3.size h3 (h4.push (K [D t 0,D t 0,D t 0].toArray 33)):=b4.trans (bp.mono s4)
    first|refine⟨bp3,?_⟩|skip
    refine (FE T (h4.push (K [D t 0,D t 0,D t 0].toArray 33)) _ _ Wm (PL.take 22) (o4.Yz bp) ((sT.Yz b4).Yz bp) cT ((tk3.Qj b4).Qj bp)).use ?_;rintro _ h5 ⟨rfl,b5⟩;have s5:=b5.size;have b35:Zj h3.size h3 h5:=bp3.trans (b5.mono (by simp;omega));have xA:=b5.get (by simp) Zc;have yA:=zt h5 h4.size [D t tc,D t tr,D t tu] rfl rfl xA;have hz:=Za xA;rw[hT,<-hPE];simp -implicitDefEqProofs only[go_sem,b35,yA,hz]
    first
     | exact⟨b35.Zt (by omega) _,b35.Zt (by omega) _,_,by omega,rfl,ZV xA⟩
     | exact⟨b35.Zt (by omega) _,_,by omega,rfl,ZV xA⟩
     | exact⟨_,by omega,rfl,ZV xA⟩
  .have bp3:Zj h3.size h3 (h3.push (K [D t 0,D t 0,D t 0].toArray 33)):=Zj.push (R _) _
   first|refine⟨bp3,?_⟩|skip
   refine (Ib T (h3.push (K [D t 0,D t 0,D t 0].toArray 33)) (tk3.Qj bp3)).use ?_;rintro w4 h4 ⟨⟨k4,o4⟩,b4⟩;have s4:=b4.size;have fX:Zj h3.size h3 h4:=bp3.trans (b4.mono (by simp));simp -implicitDefEqProofs only[go_sem,fX,n22];refine (FE T h4 _ _ Wm (PL.take 22) o4 (sT.Yz fX) cT (tk3.Qj fX)).use ?_;rintro _ h5 ⟨rfl,b5⟩;have s5:=b5.size;have b35:Zj h3.size h3 h5:=fX.trans (b5.mono fX.size);have xA:=b5.get (by simp at s4;omega) (b4.get (by simp) Zc);have yA:=zt h5 h3.size [D t tc,D t tr,D t tu] rfl rfl xA;have hz:=Za xA;rw[hT,<-hPE];simp -implicitDefEqProofs only[go_sem,b35,yA,hz]
   first
    | exact⟨b35.Zt (by omega) _,b35.Zt (by omega) _,_,by omega,rfl,ZV xA⟩
    | exact⟨b35.Zt (by omega) _,_,by omega,rfl,ZV xA⟩
    | exact⟨_,by omega,rfl,ZV xA⟩
 rintro F h6 ⟨b6,f0,f1,f4,f9,f7,A,hA3,f10,t6⟩;have hA6:=Za t6;have z6:=b6.get (by omega) z3;have B6:=B3.trans (b6.mono B3.size);by_cases pe:PE=0
 case neg=>
  have ee:=show YR rc now=PE by rw[E2];unfold dk;rw[<-hPE,if_pos pe]
  rw[U7 (by rw[ee];exact pe),ee];have yz:=fin h6 [D t 0,D t 0,D t 0,D t 0,D t 0] rfl rfl z6;have hz:=Za z6;simp -implicitDefEqProofs only[go_sem,f0,f1,f4,f9,f7,f10,pe,yz,hz]
  try exact (B6).Zt (R _) _
 have E3:YR rc now=dj PL X now:=by rw[E2];unfold dk;rw[<-hPE,if_neg (fun hn=>hn pe)]
 obtain⟨rfl,rfl,rfl⟩:=Zvo pe;have n42:(22:Int)<=((H PL):Int):=by omega
 obtain⟨q2,d2,jG,Vq⟩:=sPL.VM;simp only[Value.slice.injEq,true_and]at jG;obtain⟨rfl,rfl⟩:=jG;obtain⟨b22,o22,rfl,_,_⟩:=Vq (by intro e;rw[e]at l42;cases l42);have d22:¬c2=22:=by omega
 have sB:=Ph (sPL.Yz b6) (k:=22) (by omega) rfl (c2-22);simp -implicitDefEqProofs only[go_sem,f0,f1,f4,f9,f7,f10,pe,n42,d22];refine (DT T h6 _ (PL.drop 22) sB (by rw[al];omega)).use ?_;rintro _ h7 ⟨rfl,b7⟩;have s7:=b7.size;have z7:=b7.get (by omega) z6;have t7:=b7.get hA6 t6;have B7:=B6.trans (b7.mono B6.size);obtain⟨DE,hDE⟩:=ZL (QA (PL.drop 22));have Y7:¬h.size=h7.size:=by omega
 have FB:h.size<h7.size:=by omega
 by_cases de:DE=0
 case neg=>
  have ee:YR rc now=DE:=by rw[E3];unfold dj;rw[<-hDE,if_pos de]
  rw[U7 (by rw[ee];exact de),ee,sK (by rw[<-hDE];exact de),<-hDE];have yz:=fin h7 [D t 0,D t 0,D t 0,D t 0,D t 0] rfl rfl z7;simp -implicitDefEqProofs only[go_sem,f0,f1,f4,f9,f7,f10,de,yz,Y7,FB]
  try exact (B7.Zt (R _) _).YX (by simp;omega) _
 have E4:YR rc now=nG PL X now:=by rw[E3];unfold dj;rw[<-hDE,if_neg (fun hn=>hn de)]
 rw[sJ (by rw[<-hDE];exact de),<-hDE,de];have eA:Ai PL now=Rv ((PL.take 22).getD 0 0:Nat) ((PL.take 22).getD 1 0:Nat) (XH (PL.take 22) 2:Nat) (XD (PL.drop 22) 0) (XD (PL.drop 22) 1) (XD (PL.drop 22) 2) (XD (PL.drop 22) 3) (XD (PL.drop 22) 4) now:=rfl;have eC:YR rc now=0->dn rc now=[D t (XD (PL.drop 22) 0),D t (XD (PL.drop 22) 1),D t (XD (PL.drop 22) 2),D t (XD (PL.drop 22) 3),D t (XD (PL.drop 22) 4)]:=fun e=>by rw[sL e,ePL]
 have e4:nG PL X now=if XD (PL.drop 22) 0≠0/\XD (PL.drop 22) 1≠(X:Nat) then 11 else Ai PL now:=rfl
 generalize XD (PL.drop 22) 0=y0 at *;generalize XD (PL.drop 22) 1=y1 at *;generalize XD (PL.drop 22) 2=y2 at *;generalize XD (PL.drop 22) 3=y3 at *;generalize XD (PL.drop 22) 4=y4 at *;obtain⟨h8,hh8⟩:=ZL (h7.push (K [D t y0,D t y1,D t y2,D t y3,D t y4].toArray 25):Hp);have e8:h7.push (K #[Value.int t y0,D t y1,D t y2,D t y3,D t y4] 25)=h8:=hh8.symm
 try simp -implicitDefEqProofs only[go_sem,f0,f1,f4,f9,f7,f10,de]
 rw[e8];have b8:Zj h7.size h7 h8:=by rw[hh8];exact Zj.push (R _) _
 have s8:h8.size=h7.size+1:=by rw[hh8];simp
 have c8:h8[h7.size]? = Q (K [D t y0,D t y1,D t y2,D t y3,D t y4].toArray 25):=by rw[hh8];exact Zc
 clear e8 hh8;have z8:=b8.get (by omega) z7;have t8:=b8.get (by omega) t7;have B8:=B7.trans (b8.mono B7.size);have k80:V.hc h8 ⟨h7.size,0,O⟩=Q (D t y0):=by rw[Zn c8];rfl
 have k81:V.hc h8 ⟨h7.size,1,O⟩=Q (D t y1):=by rw[Zn c8];rfl
 have rT8:rd h8 ⟨A,0,O⟩ 3=_:=Zy t8 rfl;have rC8:rd h8 ⟨h7.size,0,O⟩ 5=_:=Zy c8 rfl;have b18:Zj h1.size h1 h8:=(b2.trans ((b3.mono s2).trans ((b6.mono (by omega)).trans ((b7.mono (by omega)).trans (b8.mono (by omega))))))
 have x8:V.hc h8 ⟨bb,oo,O⟩=Q (D .u8 (X:Nat)):=by
  rw[b18.hc (by show bb<h1.size;omega),b1.hc (by exact TC)];exact x0
 have yz8:=fin h8 [D t 0,D t 0,D t 0,D t 0,D t 0] rfl rfl z8;have yc8:=fin h8 [D t y0,D t y1,D t y2,D t y3,D t y4] rfl rfl z8;have hz8:=Za z8;refine VS.mono (N:=fun F' g'=>g'=h8/\F' 0=J (Q ⟨bb,oo,O⟩) (H rc) c/\F' 1=D t now/\F' 4=ab (Q ⟨h.size,0,O⟩)/\F' 10=ab (Q ⟨A,0,O⟩)/\F' 11=ab (Q ⟨h7.size,0,O⟩)/\F' 78=ae (decide (y0≠0/\y1≠(X:Nat)))) ?_ ?_ (fun _ _ _ h=>h) (fun _ _ h=>h)
 .refine VS.q mixed (by kernel_rfl) ?_;by_cases w0:y0=0
  .have hd:decide (y0≠0/\y1≠(X:Nat))=false:=decide_eq_false (fun hn=>hn.1 w0);rw[hd];simp -implicitDefEqProofs only[go_sem,f0,f1,f4,f9,f7,f10,k80,w0]
  .by_cases w1:y1=(X:Nat)
   .have hd:decide (y0≠0/\y1≠(X:Nat))=false:=decide_eq_false (fun hn=>hn.2 w1);rw[hd];simp -implicitDefEqProofs only[go_sem,f0,f1,f4,f9,f7,f10,k80,k81,x8,n0,w0,w1]
   .have hd:decide (y0≠0/\y1≠(X:Nat))=true:=decide_eq_true ⟨w0,w1⟩;rw[hd];simp -implicitDefEqProofs only[go_sem,f0,f1,f4,f9,f7,f10,k80,k81,x8,n0,w0,w1]
 rintro F' g8 ⟨Do,g0,g1,g4,gt,gc,gb⟩;rw[Do];clear Do;by_cases wr':y0≠0/\y1≠(X:Nat)
 case pos=>
  have ee:YR rc now=11:=by rw[E4,e4,if_pos wr']
  rw[decide_eq_true wr']at gb;rw[U7 (by rw[ee];decide),ee];simp -implicitDefEqProofs only[go_sem,g4,gb,yz8,hz8]
  try exact B8.Zt (R _) _
 have E5:YR rc now=Ai PL now:=by rw[E4,e4,if_neg wr']
 rw[decide_eq_false wr']at gb;have hal:Zd aD T 84 #[aa #[D t ((PL.take 22).getD 0 0:Nat),D t ((PL.take 22).getD 1 0:Nat),D t (XH (PL.take 22) 2:Nat)],aa #[D t y0,D t y1,D t y2,D t y3,D t y4],D t now] h8 fun v' h'=>v'=D t (Ai PL now)/\Zj h8.size h8 h':=by
  rw[eA];exact rS T h8 _ _ _ y0 y1 y2 y3 y4 now (tn.Qj B8)
 simp -implicitDefEqProofs only[go_sem,g0,g1,g4,gt,gc,gb,rT8,rC8];refine hal.use ?_;rintro _ h9 ⟨rfl,b9⟩;have s9:=b9.size;have z9:=b9.get (by omega) z8;have c9:=b9.get (by omega) c8;have rC9:rd h9 ⟨h7.size,0,O⟩ 5=_:=Zy c9 rfl;have B9:=B8.trans (b9.mono B8.size);have yz9:=fin h9 [D t 0,D t 0,D t 0,D t 0,D t 0] rfl rfl z9;have yc9:=fin h9 [D t y0,D t y1,D t y2,D t y3,D t y4] rfl rfl z9;have hz9:=Za z9;generalize Ai PL now=OA at *;by_cases oa:OA=0
 .have ee:YR rc now=0:=by rw[E5,oa]
  rw[eC ee,ee];simp -implicitDefEqProofs only[go_sem,g4,gc,oa,rC9,yc9,hz9]
  try exact B9.Zt (R _) _
 .rw[U7 (by rw[E5];exact oa),E5];simp -implicitDefEqProofs only[go_sem,g4,gc,oa,yz9,hz9]
  try exact B9.Zt (R _) _
end Go.Proofs.YthlfaofofaphfaaGreatDoor
