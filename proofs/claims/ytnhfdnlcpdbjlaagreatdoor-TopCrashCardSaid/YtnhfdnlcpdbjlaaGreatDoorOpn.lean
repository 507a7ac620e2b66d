/- Part Opn. -/
import Derived.Test.YtnhfdnlcpdbjlaaGreatDoorPik
import Derived.Test.YtnhfdnlcpdbjlaaGreatDoorW21
import Derived.Test.YtnhfdnlcpdbjlaaGreatDoorChw
import Derived.Test.YtnhfdnlcpdbjlaaGreatDoorLchks
import Derived.Test.YtnhfdnlcpdbjlaaGreatDoorVst
import Derived.Test.YtnhfdnlcpdbjlaaGreatDoorTakf
import Derived.Test.YtnhfdnlcpdbjlaaGreatDoorPak
import Derived.Test.YtnhfdnlcpdbjlaaGreatDoorTab
open Go.Value renaming int→D,slice→J,agg→aa,pointer→ak,bool→al
open Go.IntKind renaming i64→t
open Go.Obj renaming cells→K
open Go.Proofs.Tryz renaming prog→aF,underlying34→a5,underlying64→ba
open List renaming length→H,length_append→U,append_assoc→am,length_drop→an,length_cons→au,take_append_drop→aw,length_take→aI,length_nil→a6,drop_eq_getElem_cons→a7,getD_eq_getElem?_getD→a9,not_mem_nil→bc,append_nil→bh,nil_append→bj,length_singleton→bk,mem_cons→bo,getElem_mem→bz,take_left'→bA,length_set→bD
open Nat renaming le_refl→R,zero_add→a4,add_zero→bf,zero_le→bl,reduceEqDiff→bw
open Int renaming toNat_natCast→S
open Option renaming none→O,some→Q
open Array renaming getElem?_push→W
open Go.Builtin renaming zeroCells→a8
open Go renaming Value→aX
namespace Go.Proofs.YtnhfdnlcpdbjlaaGreatDoor
open Go Go.V
set_option linter.all false
set_option maxRecDepth 100000
variable(T:World)
theorem Dm(h:Hp)(x y:Vt):Zg aF T 109 #[aa (Zv x).toArray,aa (Zv y).toArray] h fun v' h'=>v'=D t (Nc x.Zs y.Zs)/\Zk h.size h h':=by
 refine Zg.XK [_,_] Tryz.func109 ?_;unfold Zv;simp -implicitDefEqProofs only[go_sem];refine (Sm T _ _ _).pure ?_;simp -implicitDefEqProofs only[go_sem]
 (repeat' (first|exact Zk.refl _ _|assumption|refine Zk.add ?_ _|refine Zk.Zu ?_ IX _|refine Zk.trans KO ?_))
def Found(l:List Vt)(s:Int)(i:Nat)(b:Bool):Prop:=(b=true/\∃hi:i<(H l),l[i].Zs=s)\/(b=false/\(∀j (hj:j<(H l)),j<i->l[j].Zs<s)/\∀j (hj:j<(H l)),i<=j->s<l[j].Zs)
theorem aS(a b:Int):Nc a b<0↔a<b:=by unfold Nc;split<;>(try split)<;>omega
theorem Do(a b:Int):Nc a b=0↔a=b:=by unfold Nc;split<;>(try split)<;>omega
theorem ye{x:Nat}:Jc .u64 (x:Int) 1=((x/2:Nat):Int):=by
 rw[show (1:Int)=((1:Nat):Int) from rfl,OF .u64 x 1 KC,Nat.shiftRight_eq_div_pow]
theorem iJ(h:Hp)(u:aX)(l:List Vt)(v:Vt)(s:Ts Zv 8 h u l)(hs:Srt l)(hl:(H l)<=2199023255552):
  Zg aF T 108 #[u,aa (Zv v).toArray,.func (.func 109) #[] #[]] h fun v' h'=>(∃(i:Nat) (b:Bool),i<=(H l)/\v'=.tuple [D t i,al b].toArray/\Found l v.Zs i b)/\Zk h.size h h':=by
 obtain⟨p,c,rfl,XH⟩:=Wk s;refine Zg.XK [_,_,_] Tryz.func108 ?_;unfold Zv;simp -implicitDefEqProofs only[go_sem];refine VS.Yq (fun F g=>Zk h.size h g/\g[h.size]? = Q (K (Zv v).toArray 97)/\F 0=J p (H l) c/\F 2=.func (.func 109) #[] #[]/\F 4=ak (Q ⟨h.size,0,O⟩)/\F 8=D t (H l)/\∃i j:Nat,i<=j/\j<=(H l)/\F 9=D t i/\F 10=D t j/\(∀k (hk:k<(H l)),k<i->l[k].Zs<v.Zs)/\(∀k (hk:k<(H l)),j<=k->v.Zs<=l[k].Zs))
  (fun F _=>(vi (F 10)).toNat-(vi (F 9)).toNat) rfl ⟨(Zk.refl _ _).add _,Zd,rfl,rfl,rfl,rfl,0,(H l),mD,mD,rfl,rfl,fun k _ hk=>by omega,fun k hk O9=>by omega⟩ ?_
 rintro F g ⟨hg,hx,f0,f2,f4,f8,i,j,sK,hj,f9,f10,lo,hi⟩;have PQ:=hg.size;have hz:=Za hx;have rx:rd g ⟨h.size,0,O⟩ 8=Q (Zv v):=ZA hx rfl;unfold Zv at rx;by_cases ZV:i<j
 .have Z4:(i:Int)<j:=mD;have e1:(i:Int)+(j:Int)=((i+j:Nat):Int):=mD;have e2:((i+j:Nat):Int)%18446744073709551616=((i+j:Nat):Int):=mD;have e3:=ye (x:=i+j);obtain⟨m,hm⟩:=ZP ((i+j)/2);rw[<-hm]at e3;have kT:m<(H l):=mD;have ZtI:(m:Int)<(H l):=mD;obtain⟨bb,oo,rfl,Tu,_,XH⟩:=XH (by intro e;rw[e]at kT;simp at kT);have rm:rd g ⟨bb,oo+m*8,O⟩ 8=Q (Zv l[m]):=by rw[Q9 hg (by exact Tu)];exact XH m kT
  obtain⟨y,hy⟩:=ZP (l[m]);rw[<-hy]at rm;unfold Zv at rm;simp -implicitDefEqProofs only[go_sem,f9,f10,Z4,e1,e2,e3];refine VS.z (g.size) [] (.p 0 (.p 1 (.p 2 (.p 3 (.q 4 (.q 5 (.s 6 (.p 7 .nil)))))))) mixed sV ?_;have q1:bb<g.size:=mD;simp -implicitDefEqProofs only[go_sem,f0,f2,f4,ZtI,rm,rx,hz,q1];refine (Dm T g y v).use ?_;rintro _ g1 ⟨rfl,b1⟩;have LO:=hg.trans (b1.mono PQ);have UO:=b1.get hz hx;by_cases q:y.Zs<v.Zs
  .have q':=(aS _ _).2 q;simp -implicitDefEqProofs only[go_sem,q',f0,f2,f4,f8,f9,f10];refine⟨b1,⟨LO,UO,f0,f2,f4,f8,m+1,j,mD,hj,rfl,f10,fun k hk hkm=>?_,hi⟩,?_⟩
   .by_cases e:k=m
    .subst e;rw[<-hy];exact q
    .have:=hs k m hk kT mD;rw[<-hy]at this;omega
   .simp only[vi,Zt,↓reduceIte,bw,f9,f10];omega
  .have q':¬Nc y.Zs v.Zs<0:=fun h=>q ((aS _ _).1 h);simp -implicitDefEqProofs only[go_sem,q',f0,f2,f4,f8,f9,f10];refine⟨b1,⟨LO,UO,f0,f2,f4,f8,i,m,mD,mD,f9,rfl,lo,fun k hk hkm=>?_⟩,?_⟩
   .by_cases e:k=m
    .subst e;rw[<-hy];omega
    .have:=hs m k kT hk mD;rw[<-hy]at this;omega
   .simp only[vi,Zt,↓reduceIte,bw,f9,f10];omega
 .have Z4:¬(i:Int)<j:=mD;obtain rfl:i=j:=mD;by_cases dP:i<(H l)
  .have yf:(i:Int)<(H l):=mD;obtain⟨bb,oo,rfl,Tu,_,XH⟩:=XH (by intro e;rw[e]at dP;simp at dP);have rm:rd g ⟨bb,oo+i*8,O⟩ 8=Q (Zv l[i]):=by rw[Q9 hg (by exact Tu)];exact XH i dP
   have Xw:=hi i dP (R _);obtain⟨y,hy⟩:=ZP (l[i]);rw[<-hy]at rm Xw;unfold Zv at rm;simp -implicitDefEqProofs only[go_sem,f9,f10,Z4];refine VS.z (g.size) [] (.p 0 (.p 1 (.p 2 (.p 3 (.p 4 (.p 5 (.p 6 (.p 7 (.p 8 (.q 9 (.q 10 (.s 11 (.p 12 (.p 13 (.p 14 (.p 15 .nil)))))))))))))))) mixed sV ?_;have q1:bb<g.size:=mD;simp -implicitDefEqProofs only[go_sem,f0,f2,f4,f8,f9,f10,yf,rm,rx,hz,q1];refine (Dm T g y v).use ?_;rintro _ g1 ⟨rfl,b1⟩;have LO:=hg.trans (b1.mono PQ);by_cases q:y.Zs=v.Zs
   .have q':=(Do _ _).2 q;simp -implicitDefEqProofs only[go_sem,q'];exact⟨b1,⟨i,true,mD,rfl,.inl ⟨rfl,dP,by rw[<-hy];exact q⟩⟩,LO⟩
   .have q':¬Nc y.Zs v.Zs=0:=fun h=>q ((Do _ _).1 h);simp -implicitDefEqProofs only[go_sem,q'];refine⟨b1,⟨i,false,mD,rfl,.inr ⟨rfl,fun k hk hkm=>lo k hk hkm,fun k hk hkm=>?_⟩⟩,LO⟩;by_cases e:k=i
    .subst e;rw[<-hy];omega
    .have:=hs i k dP hk mD;rw[<-hy]at this;omega
  .have yf:¬(i:Int)<(H l):=mD;simp -implicitDefEqProofs only[go_sem,f9,f10,Z4];refine VS.z (g.size) [] (.p 0 (.p 1 (.p 2 (.p 3 (.p 4 (.p 5 (.p 6 (.p 7 (.p 8 (.q 9 (.q 10 (.s 11 (.p 12 (.p 13 (.p 14 (.p 15 .nil)))))))))))))))) mixed sV ?_;simp -implicitDefEqProofs only[go_sem,f0,f2,f4,f8,f9,f10,yf];exact⟨⟨i,false,mD,rfl,.inr ⟨rfl,fun k hk hkm=>lo k hk hkm,fun k hk hkm=>by omega⟩⟩,hg⟩
theorem JK(l:List Vt):(ZT Zv l).length=(H l)*8:=QL (n:=8) (fun _=>rfl) l
theorem aT(l:List Vt):(ZT Zv l).all YN=true:=by
 induction l with
 | nil=>rfl
 | cons x l ih=>rw[ZT,List.all_append,ih];rfl
theorem zeroV(k:Nat):(a8 (rep 8 [Value.int t 0]).toArray k).toList.length=k*8:=by rw[Array.length_toList,Xr];rfl
theorem pO(k:Nat):(a8 (rep 8 [Value.int t 0]).toArray k).toList.all YN=true:=by
 unfold a8;rw[List.all_eq_true];intro x hx;simp only[Array.toList_map,Array.toList_range,List.mem_map]at hx;obtain⟨j,_,rfl⟩:=hx;have:j%8<8:=Nat.mod_lt _ KC;show YN ((rep 8 [Value.int t 0]).toArray[j%8]!)=true;rcases (by omega:j%8=0\/j%8=1\/j%8=2\/j%8=3\/j%8=4\/j%8=5\/j%8=6\/j%8=7) with e|e|e|e|e|e|e|e<;>rw[e]<;>rfl
theorem GK:Extern.findNext Tryz.f130=O/\Extern.find Tryz.f130=Q (Extern.SlicesOverlaps.overlaps #[64,64] #[4]):=⟨sV,sV⟩
theorem pP(h:Hp)(B:Nat)(p:Option Addr)(cap i:Nat)(l:List Vt)(x:Vt)(bv:Nat)(Zr:Qw B 97 Zv 8 h (.slice p l.length cap) l)(hB:B<=h.size)(hi:i<=l.length)(hl:l.length<=1000000)(hx:h[bv]? = Q (.cells (Zv x).toArray 97))(Xb:cap≠0->∀b o,p=Q ⟨b,o,O⟩->b≠bv):
  Zg aF T 111 #[.slice p l.length cap,.int .i64 i,.slice (Q ⟨bv,0,O⟩) 1 1] h fun v' h'=>Qw B 97 Zv 8 h' v' (l.take i++x :: l.drop i)/\Zk B h h':=by
 refine Zg.XK [_,_,_] Tryz.func111 ?_;have hlc:l.length<=cap:=by
  obtain⟨_,_,e,h⟩:=Zr.open;simp only[Value.slice.injEq]at e;omega
 have n1:(0:Int)<=(i:Int):=by omega
 have n2:(i:Int)<=(l.length:Int):=by omega
 have sx:Ts Zv 8 h (.slice (Q ⟨bv,0,O⟩) 1 1) [x]:=⟨by
  have:=VL (pre:=[]) (cs:=Zv x) (post:=[]) (m:=1) (n:=8) (c:=1) (by rw[bh,bj];exact hx) rfl rfl
  simpa [ZT] using this⟩
 by_cases Hh:i=l.length
 .subst Hh;have k1:((1:Nat):Int)=1:=rfl;by_cases c0:cap=0
  .obtain rfl:l=[]:=List.eq_nil_of_length_eq_zero (by omega);subst c0;rw[a6]at Zr ⊢;have k0:((0:Nat):Int)=0:=rfl;simp -implicitDefEqProofs only[go_sem,k0,k1];refine OH (E:=97) (B:=B) (n:=8) (bytes:=64) KQ ba Cp Zb2 rfl Zb1 (fun _=>rfl) Zr hB sx (by simp only[bk,a6];omega) (by omega) ?_;intro v' h' ho hb _;simp -implicitDefEqProofs only[go_sem];exact⟨ho,hb⟩
  .obtain⟨b,ZE,Ha,rfl,hg,_,Nm,_⟩:=Zr.Zr.ZE c0;have hz:(l.length:Int)<=(l.length:Int):=Int.le_refl _;simp -implicitDefEqProofs only[go_sem,n1,n2,k1,S];refine OH (E:=97) (B:=B) (n:=8) (bytes:=64) KQ ba Cp Zb2 rfl Zb1 (fun _=>rfl) Zr hB sx (by simp only[bk];omega) (by omega) ?_;intro v' h' ho hb _;simp -implicitDefEqProofs only[go_sem];rw[List.take_length,List.drop_length];exact⟨ho,hb⟩
 have dP:i<l.length:=by omega
 have ki:¬(i:Int)=(l.length:Int):=by omega
 have c0:cap≠0:=by omega
 obtain⟨b,ZE,Ha,rfl,hg,_,Nm,_⟩:=Zr.Zr.ZE c0;have hbv:b≠bv:=Xb c0 b 0 rfl;have et:l=l.take i++(l[i] :: l.drop (i+1)):=by
  conv=>lhs;rw[<-aw i l,a7 dP]
 have ed:ZT Zv (l.drop i)=Zv l[i]++ZT Zv (l.drop (i+1)):=by
  rw[a7 dP];rfl
 have ee:ZT Zv l=ZT Zv (l.take i)++ZT Zv (l.drop i):=by rw[<-YV,aw]
 have lt:(ZT Zv (l.take i)).length=i*8:=by rw[JK,aI];congr 1;omega
 have ld:(ZT Zv (l.drop i)).length=(l.length-i)*8:=by rw[JK,an]
 have yg:ZT Zv (l.take i++x :: l.drop i)=ZT Zv (l.take i)++(Zv x++ZT Zv (l.drop i)):=by rw[YV];rfl
 have ZcM:(l.take i++x :: l.drop i).length=l.length+1:=by rw[U,aI,au,an];omega
 have c1:¬cap=i:=by omega
 have m1:(l.length:Int)+1=((l.length+1:Nat):Int):=by omega
 have m2:((l.length+1:Nat):Int)-(i:Int)=((l.length+1-i:Nat):Int):=by omega
 have m3:(i:Int)+1=((i+1:Nat):Int):=by omega
 have k1:((1:Nat):Int)=1:=rfl;by_cases U3:cap<l.length+1
 .have aU:(cap:Int)<((l.length+1:Nat):Int):=by omega
  have n3:(i:Int)<=(cap:Int):=by omega
  simp -implicitDefEqProofs only[go_sem,n1,n2,n3,k1,ki,m1,aU,m2,S];have ZtJ:UK B 97 8 h (.slice (Q ⟨b,0,O⟩) i cap) i (ZT Zv (l.take i)):=by
   have:=Zr.Zr.Na hi;rw[ee,bA lt]at this;exact this
  refine Cj (E:=97) (B:=B) (n:=8) (m:=i) (k:=l.length+1-i) (bytes:=64) (zs:=rep 8 [Value.int .i64 0]) KQ Tryz.underlying3 Cp Zb2 rfl (by decide) Zb1 ZtJ hB (pO _) (by omega) (by omega) ?_;intro w g ow _ iK;obtain⟨dO,c2,rfl⟩:=iK _ _ rfl (by omega);obtain⟨Z,hZ⟩:=ZP ((a8 (rep 8 [Value.int .i64 0]).toArray (l.length+1-i)).toList);have lZ:=zeroV (l.length+1-i);rw[<-hZ]at ow lZ;have ec:i+(l.length+1-i)=l.length+1:=by omega
  rw[ec]at ow ⊢;rcases ow with⟨_,h0,_⟩|⟨b2,ZFC,sp2,_,xN,U1,_,hs2,EO⟩
  .omega
  simp only[Value.slice.injEq,Option.some.injEq,Addr.mk.injEq,true_and,and_true]at xN;obtain⟨rfl,rfl⟩:=xN;have d1:¬c2=i:=by omega
  have d2:(i:Int)<=((l.length+1:Nat):Int):=by omega
  have yh:=Za hg;have yi:=Za hx;have kR:g[b]? = _:=dO.get yh hg;have hgv:g[bv]? = _:=dO.get yi hx;have sx1:Sl 8 g (.slice (Q ⟨bv,0,O⟩) 1 1) 1 (Zv x):=VL (pre:=[]) (post:=[]) (by rw[bh,bj];exact hgv) rfl rfl;have yj:min 1 (l.length+1-i)=1:=by omega
  have eZ:ZT Zv (l.take i)++Z++sp2=ZT Zv (l.take i)++(Z.take 8++(Z.drop 8++sp2)):=by rw[am,<-am (Z.take 8),aw]
  have lz8:(Z.take 8).length=8:=by rw[aI];omega
  have ldz:(Z.drop 8).length=(l.length-i)*8:=by rw[an];omega
  have ec1:Xd (ZT Zv (l.take i)++Z++sp2) (i*8) ((Zv x).take (1*8))=(ZT Zv (l.take i)++Zv x)++(Z.drop 8++sp2):=by
   rw[show (Zv x).take (1*8)=Zv x from rfl,eZ,TV lt.symm (by rw[lz8];rfl),am]
  simp -implicitDefEqProofs only[go_sem,n1,d1,d2,S,a4];refine LZ (E:=97) (n:=8) KQ Cp U1 sx1 rfl ?_ ?_
  .rw[yj,U,U,lt,lZ];omega
  rw[yj,ec1];obtain⟨g2,GL⟩:=ZP (g.setIfInBounds h.size (.cells ((ZT Zv (l.take i)++Zv x)++(Z.drop 8++sp2)).toArray 97):Hp);rw[<-GL];have g2n:g2[h.size]? = Q (.cells ((ZT Zv (l.take i)++Zv x)++(Z.drop 8++sp2)).toArray 97):=by rw[GL];exact ZQ U1
  have g2b:g2[b]? = Q (.cells (ZT Zv (l.take i)++(ZT Zv (l.drop i)++ZE)).toArray 97):=by rw[GL,Y2 (by omega),kR,ee,am]
  have bg2:Zk h.size h g2:=by rw[GL];exact dO.Zu (R _) _
  clear GL;have m4:(i:Int)+1=((i+1:Nat):Int):=by omega
  have d3:¬c2=i+1:=by omega
  have d4:((i+1:Nat):Int)<=((l.length+1:Nat):Int):=by omega
  have d5:(0:Int)<=((i+1:Nat):Int):=by omega
  simp -implicitDefEqProofs only[go_sem];refine VS.z (h.size) [8] (.p 0 (.p 1 (.p 2 (.p 3 (.p 4 (.p 5 (.p 6 (.p 7 (.w 8 .nil))))))))) mixed (by kernel_rfl) ?_;simp -implicitDefEqProofs only[go_sem,n1,n2,m4,k1,d3,d4,d5,c1,S,a4];have ss:Sl 8 g2 (.slice (Q ⟨b,i*8,O⟩) (l.length-i) (cap-i)) (l.length-i) (ZT Zv (l.drop i)):=VL g2b ld lt.symm;have min2:min (l.length-i) (l.length+1-(i+1))=l.length-i:=by omega
  have etk:(ZT Zv (l.drop i)).take ((l.length-i)*8)=ZT Zv (l.drop i):=List.take_of_length_le (by omega);have ec2:Xd ((ZT Zv (l.take i)++Zv x)++(Z.drop 8++sp2)) ((i+1)*8) ((ZT Zv (l.drop i)).take ((l.length-i)*8))=ZT Zv (l.take i++x :: l.drop i)++sp2:=by
   rw[etk,TV (by rw[U,lt];show (i+1)*8=i*8+8;omega) (by rw[ld,ldz]),yg];simp only[am]
  refine LZ (E:=97) (n:=8) KQ Cp g2n ss (aT _) ?_ ?_
  .rw[min2,U,U,U,lt,ldz];show _<=i*8+8+_;omega
  rw[min2,ec2];simp -implicitDefEqProofs only[go_sem];refine⟨⟨?_⟩,(bg2.Zu (R _) _).mono hB⟩;rw[ZcM];exact UK.gg hB (ZQ g2n) (by rw[JK,ZcM]) hs2 EO
 .have aU:¬(cap:Int)<((l.length+1:Nat):Int):=by omega
  have Zlo:((l.length+1:Nat):Int)<=(cap:Int):=by omega
  have n4:(0:Int)<=((l.length+1:Nat):Int):=by omega
  have m4:(i:Int)+1=((i+1:Nat):Int):=by omega
  have d4:((i+1:Nat):Int)<=((l.length+1:Nat):Int):=by omega
  have d5:(0:Int)<=((i+1:Nat):Int):=by omega
  have d3:¬cap=i+1:=by omega
  simp -implicitDefEqProofs only[go_sem,n1,n2,n4,k1,c1,ki,m1,aU,Zlo,m4,d3,d4,d5,S,a4];have gB:h[b]? = Q (.cells (ZT Zv l++ZE).toArray 97 (0,0)):=hg;have gA:h[bv]? = Q (.cells (Zv x).toArray 97 (0,0)):=hx;have lsp:8<=ZE.length:=by
   rw[Nm];have:=Nat.mul_le_mul_right 8 (show 1<=cap-l.length by omega);omega
  refine Ck Tryz.func130 (by decide) rfl GK.1 GK.2 ?_;refine Ci (size:=8) ba Cp (fun e=>hbv e.symm) gA gB (by intro e;have:=congrArg H e;rw[U,a6]at this;omega) ?_;simp -implicitDefEqProofs only[go_sem];refine VS.z (B) [8] (.p 0 (.p 1 (.p 2 (.p 3 (.p 4 (.p 5 (.p 6 (.p 7 (.w 8 .nil))))))))) mixed (by kernel_rfl) ?_;simp -implicitDefEqProofs only[go_sem,n1,n2,m4,k1,d3,d4,d5,c1,S,a4];have ss:Sl 8 h (.slice (Q ⟨b,i*8,O⟩) (l.length+1-i) (cap-i)) (l.length+1-i) (ZT Zv (l.drop i)++ZE.take 8):=VL (post:=ZE.drop 8) (by rw[hg,ee,am,am,aw]) (by rw[U,ld,aI];omega) lt.symm;have min2:min (l.length+1-i) (l.length+1-(i+1))=l.length-i:=by omega
  have etk:(ZT Zv (l.drop i)++ZE.take 8).take ((l.length-i)*8)=ZT Zv (l.drop i):=bA ld;have ld1:(ZT Zv (l.drop (i+1))).length=(l.length-(i+1))*8:=by rw[JK,an]
  have ecc:ZT Zv l++ZE=(ZT Zv (l.take i)++Zv l[i])++((ZT Zv (l.drop (i+1))++ZE.take 8)++ZE.drop 8):=by
   rw[ee,ed];simp only[am,aw]
  have ec1:Xd (ZT Zv l++ZE) ((i+1)*8) (ZT Zv (l.drop i))=ZT Zv (l.take i)++(Zv l[i]++(ZT Zv (l.drop i)++ZE.drop 8)):=by
   rw[ecc,TV (by rw[U,lt];show (i+1)*8=i*8+8;omega) (by rw[ld,U,ld1,aI];omega),am]
  refine nN (E:=97) (n:=8) KQ Cp gB ss (by rw[min2,etk];exact aT _) ?_ ?_
  .rw[min2,U,JK];omega
  rw[min2,etk,ec1];obtain⟨g2,GL⟩:=ZP (h.setIfInBounds b (.cells (ZT Zv (l.take i)++(Zv l[i]++(ZT Zv (l.drop i)++ZE.drop 8))).toArray 97):Hp);rw[<-GL];have g2n:g2[b]? = Q (.cells (ZT Zv (l.take i)++(Zv l[i]++(ZT Zv (l.drop i)++ZE.drop 8))).toArray 97):=by rw[GL];exact ZQ hg
  have g2v:g2[bv]? = Q (.cells (Zv x).toArray 97):=by rw[GL,Y2 hbv];exact hx
  have bg2:Zk B h g2:=by rw[GL];exact Zk.set Ha _
  clear GL;have sx1:Sl 8 g2 (.slice (Q ⟨bv,0,O⟩) 1 1) 1 (Zv x):=VL (pre:=[]) (post:=[]) (by rw[bh,bj];exact g2v) rfl rfl;have yj:min 1 (l.length+1-i)=1:=by omega
  have ec2:Xd (ZT Zv (l.take i)++(Zv l[i]++(ZT Zv (l.drop i)++ZE.drop 8))) (i*8) ((Zv x).take (1*8))=ZT Zv (l.take i++x :: l.drop i)++ZE.drop 8:=by
   rw[show (Zv x).take (1*8)=Zv x from rfl,TV lt.symm (show (Zv x).length=(Zv l[i]).length from rfl),yg];simp only[am]
  simp -implicitDefEqProofs only[go_sem,n1,n2,m4,k1,d3,d4,d5,c1,S,a4];refine LZ (E:=97) (n:=8) KQ Cp g2n sx1 rfl ?_ ?_
  .rw[yj,U,U,lt];show i*8+1*8<=i*8+(8+_);omega
  rw[yj,ec2];simp -implicitDefEqProofs only[go_sem];refine⟨⟨?_⟩,bg2.trans (Zk.set Ha _)⟩;rw[ZcM];exact UK.gg Ha (ZQ g2n) (by rw[JK,ZcM]) (by rw[an,Nm];omega) (by omega)
theorem ZcN{l:List Vt}(hs:Srt l)(hm:∀x∈l,Yu x):∀i (hi:i<(H l)),(i:Int)<=l[i].Zs:=by
 intro i
 induction i with
 | zero=>intro hi;have:=(hm _ (bz hi)).1.1;omega
 | succ i ih=>
  intro hi;have h1:=ih mD;have h2:=hs i (i+1) mD hi mD;omega
theorem ZcO{l:List Vt}(hs:Srt l)(hm:∀x∈l,Yu x):(H l)<=40:=by
 by_cases h:(H l)<=40
 .exact h
 .have h1:=ZcN hs hm 40 mD;have h2:=(hm _ (bz (show 40<(H l) by omega))).1.2;omega
def Xc(p:Yg)(l:List Vt)(x:Vt):Int:=if Jw p l≠0 then 5 else if ¬Yu x then 2 else if Zw x.b p then 7 else 0
def kU(B:Nat)(h':Hp)(v':aX)(p:Yg)(l:List Vt)(x:Vt):Prop:=∃w,v'=.tuple [aa (XC (if Xc p l x=0 then x.b else ⟨0,0⟩) w).toArray,D t (Xc p l x)].toArray /\
 Qw B 97 Zv 8 h' w (if Xc p l x=0 then Jh l x else [])
theorem Ki(h:Hp)(p:Yg)(u:aX)(l:List Vt)(x:Vt)(s:Ts Zv 8 h u l)(hl:(H l)<=2199023255552):
  Zg aF T 80 #[aa (XC p u).toArray,aa (Zv x).toArray] h fun v' h'=>kU h.size h' v' p l x/\Zk h.size h h':=by
 obtain⟨pu,cu,rfl,_⟩:=Wk s;refine Zg.LY [_,_] Tryz.func80 ?_;unfold XC Zv;simp -implicitDefEqProofs only[go_sem];obtain⟨h0,J9⟩:=ZP (((h.push (K (XC p (J pu (H l) cu)).toArray 66)).push (K (Zv x).toArray 97)).push (K [D t 0,D t 0,J O 0 0].toArray 66):Hp);have b0:Zk h.size h h0:=by rw[J9];exact (((Zk.refl _ _).add _).add _).add _
 have s0:h0.size=h.size+3:=by rw[J9];simp
 have x0:h0[h.size]? = Q (K (XC p (J pu (H l) cu)).toArray 66):=by
  rw[J9,W,if_neg vI,W,if_neg sW,Zd]
 have y0:h0[h.size+1]? = Q (K (Zv x).toArray 97):=by
  rw[J9,W,if_neg sW,W,if_pos sW]
 have z0:h0[h.size+2]? = Q (K [D t 0,D t 0,J O 0 0].toArray 66):=by
  rw[J9,W,if_pos sW]
 have e0:((h.push (K #[Value.int t p.r,D t p.n,J pu (H l) cu] 66)).push (K #[Value.int t x.Zs,D t x.b.r,D t x.b.n,D t x.k,D t x.c,D t x.s,D t x.nm,D t x.v] 97)).push (K #[Value.int t 0,D t 0,J O 0 0] 66)=h0:=J9.symm;rw[e0];clear e0 J9;refine (Nv T h0 p _ l (s.YJ b0) mD).use ?_;rintro _ h1 ⟨rfl,b1⟩;have s1:=b1.size;have B1:Zk h.size h h1:=b0.trans (b1.mono mD);have x1:=b1.get mD x0;have y1:=b1.get mD y0;have z1:=b1.get mD z0;have fin:∀(G:Hp) (w:List aX),(H w)=3->w.all YN=true->G[h.size+2]? = Q (K [D t 0,D t 0,J O 0 0].toArray 66)->wr G ⟨h.size+1+1,0,O⟩ w=Q (G.setIfInBounds (h.size+1+1) (K w.toArray 66)):=by
  intro G w h3 h1 hx;rw[Yh (b:=h.size+1+1) hx 0 w,Yb (by rw[h3];rfl),if_pos ⟨by rw[h3];simp,h1⟩]
 have yk:h.size+2<h1.size:=mD;unfold kU;rcases KX p l with e0|e0
 case inr=>
  have e:Xc p l x=5:=by unfold Xc;rw[if_pos (by rw[e0];decide)]
  have w2:=fin h1 [D t 0,D t 0,J O 0 0] rfl rfl z1;simp -implicitDefEqProofs only[go_sem,e0,e,w2,yk];exact⟨⟨_,rfl,Qw.nil _ _ _ _ _⟩,B1.Zu mD _⟩
 have r1:rd h1 ⟨h.size+1,0,O⟩ 8=Q (Zv x):=ZA y1 rfl;unfold Zv at r1;simp -implicitDefEqProofs only[go_sem,e0,r1];refine (Hd T h1 x).use ?_;rintro _ h2 ⟨rfl,b2⟩;have s2:=b2.size;have B2:=B1.trans (b2.mono mD);have x2:=b2.get mD x1;have y2:=b2.get mD y1;have z2:=b2.get mD z1;have L9:h.size+2<h2.size:=mD;by_cases q1:Yu x
 case neg=>
  have e:Xc p l x=2:=by unfold Xc;rw[if_neg (by rw[e0];decide),if_pos q1]
  have w2:=fin h2 [D t 0,D t 0,J O 0 0] rfl rfl z2;simp -implicitDefEqProofs only[go_sem,q1,e,w2,L9];exact⟨⟨_,rfl,Qw.nil _ _ _ _ _⟩,B2.Zu mD _⟩
 have rb:rd h2 ⟨h.size+1,1,O⟩ 2=Q [D t x.b.r,D t x.b.n]:=by rw[YI y2 (by simp[Zv])];rfl
 have rp:rd h2 ⟨h.size,0,O⟩ 2=Q [D t p.r,D t p.n]:=by rw[YI x2 (by simp[XC])];rfl
 simp -implicitDefEqProofs only[go_sem,q1,rb,rp];refine (VY T h2 x.b p).use ?_;rintro _ h3 ⟨rfl,b3⟩;have s3:=b3.size;have B3:=B2.trans (b3.mono mD);have x3:=b3.get mD x2;have y3:=b3.get mD y2;have z3:=b3.get mD z2;have om:h.size+2<h3.size:=mD;by_cases q2:Zw x.b p
 case pos=>
  have e:Xc p l x=7:=by unfold Xc;rw[if_neg (by rw[e0];decide),if_neg (fun h=>h q1),if_pos q2]
  have w2:=fin h3 [D t 0,D t 0,J O 0 0] rfl rfl z3;have c2':Kc x.b p<0:=(MX x.b p).2 q2;simp -implicitDefEqProofs only[go_sem,c2',e,w2,om];exact⟨⟨_,rfl,Qw.nil _ _ _ _ _⟩,B3.Zu mD _⟩
 have e:Xc p l x=0:=by unfold Xc;rw[if_neg (by rw[e0];decide),if_neg (fun h=>h q1),if_neg q2]
 have c2':¬Kc x.b p<0:=fun h=>q2 ((MX x.b p).1 h);have srt:=Gt e0;have pQ:=ZcO srt (gS e0);have rv:hc h3 ⟨h.size,2,O⟩=Q (J pu (H l) cu):=by rw[Zn x3];rfl
 simp -implicitDefEqProofs only[go_sem,c2',rv];refine (So T h3 _ l (s.YJ B3) hl).use ?_;rintro w4 h4 ⟨o4,b4⟩;have s4:=b4.size;have B4:=B3.trans (b4.mono mD);have y4:=b4.get mD y3;have z4:=b4.get mD z3;have r4:rd h4 ⟨h.size+1,0,O⟩ 8=Q (Zv x):=ZA y4 rfl;unfold Zv at r4;simp -implicitDefEqProofs only[go_sem,r4];refine (iJ T h4 w4 l x o4.ts srt hl).use ?_;rintro _ h5 ⟨⟨i,b,hi,rfl,hf⟩,b5⟩;have s5:=b5.size;have B5:=B4.trans (b5.mono mD);have y5:=b5.get mD y4;have z5:=b5.get mD z4;have o5:=o4.YJ b5 (R _);have r5:rd h5 ⟨h.size+1,0,O⟩ 8=Q (Zv x):=ZA y5 rfl;unfold Zv at r5;have n1:(0:Int)<=(i:Int):=mD;obtain⟨p4,c4,rfl,hc4⟩:=o4.open;rcases hf with⟨rfl,dP,heq⟩|⟨rfl,hlo,hhi⟩
 .have yf:(i:Int)<((H l):Int):=mD;have c0:c4≠0:=mD;obtain⟨b,ZE,Ha,rfl,hg,_,Nm,_⟩:=o5.Zr.ZE c0;have et:l=l.take i++(l[i] :: l.drop (i+1)):=by
   conv=>lhs;rw[<-aw i l,a7 dP]
  have es:l.set i x=l.take i++(x :: l.drop (i+1)):=by rw[List.set_eq_take_append_cons_drop,if_pos dP]
  have ee:ZT Zv l=ZT Zv (l.take i)++(Zv l[i]++ZT Zv (l.drop (i+1))):=by
   have:=congrArg (ZT Zv) et;rw[YV]at this;exact this
  have ZtO:ZT Zv (l.set i x)=ZT Zv (l.take i)++(Zv x++ZT Zv (l.drop (i+1))):=by
   have:=congrArg (ZT Zv) es;rw[YV]at this;exact this
  have lt:(ZT Zv (l.take i)).length=i*8:=by rw[JK,aI];congr 1;omega
  have hw:wr h5 ⟨b,i*8,O⟩ (Zv x)=Q (h5.setIfInBounds b (K (ZT Zv (l.set i x)++ZE).toArray 97)):=by
   have ll:=JK l;have hmul:i*8+8<=(H l)*8:=mD;rw[Yh hg,if_pos ⟨by rw[U,ll];show i*8+8<=_;omega,rfl⟩,ee,am,am,TV lt.symm (show (Zv x).length=(Zv l[i]).length from rfl),ZtO,am,am]
  have hbz:b<h5.size:=Za hg;have aK:¬h.size+1=b:=mD;have ZgO:¬h.size+2=b:=mD;have rb5:rd h5 ⟨h.size+1,1,O⟩ 2=Q [D t x.b.r,D t x.b.n]:=by rw[YI y5 (by simp[Zv])];rfl
  obtain⟨h6,iL⟩:=ZP (h5.setIfInBounds b (K (ZT Zv (l.set i x)++ZE).toArray 97):Hp);rw[<-iL]at hw;unfold Zv at hw;have y6:h6[h.size+1]? = Q (K (Zv x).toArray 97):=by rw[iL,Y2 mD];exact y5
  have z6:h6[h.size+2]? = Q (K [D t 0,D t 0,J O 0 0].toArray 66):=by rw[iL,Y2 mD];exact z5
  have B6:Zk h.size h h6:=by rw[iL];exact B5.Zu mD _
  have o6:Qw (h.size+3) 97 Zv 8 h6 (J (Q ⟨b,0,O⟩) (H l) c4) (l.set i x):=by
   refine⟨?_⟩;rw[bD];exact UK.gg mD (by rw[iL];exact ZQ hg) (by rw[JK,bD]) Nm hc4
  have rb6:rd h6 ⟨h.size+1,1,O⟩ 2=Q [D t x.b.r,D t x.b.n]:=by rw[YI y6 (by simp[Zv])];rfl
  have w6:=fin h6 [D t x.b.r,D t x.b.n,J (Q ⟨b,0,O⟩) (H l) c4] rfl rfl z6;have ZtP:h.size+2<h6.size:=Za z6;simp -implicitDefEqProofs only[go_sem,n1,yf,r5,S,a4,hw,rb6,w6,ZtP,e];refine⟨⟨_,rfl,?_⟩,B6.Zu mD _⟩;rw[wX srt dP heq];exact (o6.Yi mD _).mono mD
 .have hn:Jh l x=l.take i++x :: l.drop i:=wZ srt hi hlo hhi;simp -implicitDefEqProofs only[go_sem,r5];obtain⟨h6,iL⟩:=ZP (h5.push (K (Zv x).toArray 97):Hp);have e6:h5.push (K #[Value.int t x.Zs,D t x.b.r,D t x.b.n,D t x.k,D t x.c,D t x.s,D t x.nm,D t x.v] 97)=h6:=iL.symm;rw[e6];have b6:Zk h5.size h5 h6:=by rw[iL];exact Zk.push (R _) _
  have s6:h6.size=h5.size+1:=by rw[iL];simp
  have v6:h6[h5.size]? = Q (K (Zv x).toArray 97):=by rw[iL];exact Zd
  clear e6 iL;have B6:=B5.trans (b6.mono mD);have o6:=(o5.YJ b6 (R _)).mono (B':=h.size+3) mD;have Xb:c4≠0->∀b o,p4=Q ⟨b,o,O⟩->b≠h5.size:=by
   intro c0 b o hp;subst hp;obtain⟨b',_,_,JU,FV,_⟩:=o5.Zr.ZE c0;simp only[Option.some.injEq,Addr.mk.injEq]at JU;have:=Za FV;omega
  refine (pP T h6 (h.size+3) p4 c4 i l x h5.size o6 mD hi mD v6 Xb).use ?_;rintro w7 h7 ⟨o7,b7⟩;obtain⟨p7,c7,rfl,_⟩:=o7.open;have s7:=b7.size;have B7:=B6.trans (b7.mono mD);have y7:=b7.get mD (b6.get mD y5);have z7:=b7.get mD (b6.get mD z5);have rb7:rd h7 ⟨h.size+1,1,O⟩ 2=Q [D t x.b.r,D t x.b.n]:=by rw[YI y7 (by simp[Zv])];rfl
  obtain⟨L,hL⟩:=ZP (l.take i++x :: l.drop i);rw[<-hL]at o7 hn ⊢;have w7:=fin h7 [D t x.b.r,D t x.b.n,J p7 (H L) c7] rfl rfl z7;have GC:h.size+2<h7.size:=Za z7;simp -implicitDefEqProofs only[go_sem,rb7,w7,GC,e];refine⟨⟨_,rfl,?_⟩,B7.Zu mD _⟩;rw[hn];exact (o7.Yi mD _).mono mD
def Qn(l:List Nat)(n:Int)(x:Vt):Int:=if ¬YT l n then 5 else if ¬Yu x then 2 else JX l n 33
def Uc(x:Vt):List Nat:=2 :: (ZK [x.Zs.toNat,x.b.r.toNat,x.b.n.toNat]++ZK [x.k.toNat,x.c.toNat,x.s.toNat,x.nm.toNat,x.v.toNat])
theorem iM(x:Vt):Xc ⟨0,0⟩ [] x=if Yu x then 0 else 2:=by
 have e:Jw ⟨0,0⟩ []=0:=rfl;unfold Xc;rw[if_neg (by rw[e];decide)];by_cases q:Yu x
 .rw[if_neg (fun hn=>hn q),if_pos q,if_neg];intro hb;have q1:=q.2.1.1.1;rcases hb with hb|⟨hb,_⟩<;>simp at hb<;>omega
 .rw[if_pos q,if_neg q]
theorem ym(h:Hp)(v:aX)(n:Int)(l:List Nat)(x:Vt)(s:Bs h v l)(hl:(H l)<=140737488355328)(tk:Tk h):
  Zg aF T 97 #[aa [v,D t n].toArray,aa (Zv x).toArray] h fun v' h'=>RK h.size h' v' l n (Qn l n x) (YS (Uc x))/\Zk h.size h h':=by
 obtain⟨p,c,rfl,_⟩:=s.open;refine Zg.XK [_,_] Tryz.func97 ?_;unfold RK Zv;simp -implicitDefEqProofs only[go_sem];obtain⟨h0,J9⟩:=ZP (((h.push (K [J p (H l) c,D t n].toArray 61)).push (K (Zv x).toArray 97)).push (K [J O 0 0,D t 0].toArray 61):Hp);have b0:Zk h.size h h0:=by rw[J9];exact (((Zk.refl _ _).add _).add _).add _
 have s0:h0.size=h.size+3:=by rw[J9];simp
 have t0:h0[h.size]? = Q (K [J p (H l) c,D t n].toArray 61):=by
  rw[J9,W,if_neg vI,W,if_neg sW,Zd]
 have t1:h0[h.size+1]? = Q (K (Zv x).toArray 97):=by
  rw[J9,W,if_neg sW,W,if_pos sW]
 have x0:h0[h.size+2]? = Q (K [J O 0 0,D t 0].toArray 61):=by
  rw[J9,W,if_pos sW]
 have e0:((h.push (K #[Value.slice p (H l) c,D t n] 61)).push (K #[Value.int t x.Zs,D t x.b.r,D t x.b.n,D t x.k,D t x.c,D t x.s,D t x.nm,D t x.v] 97)).push (K #[Value.slice O 0 0,D t 0] 61)=h0:=J9.symm;rw[e0];clear e0 J9;refine (UB T h0 _ n l (s.YJ b0) hl).use ?_;rintro _ h1 ⟨b1,o1⟩;have s1:=b1.size;have B1:Zk h.size h h1:=b0.trans (b1.mono mD);have x1:=b1.get mD x0;by_cases ok:YT l n
 case neg=>
  have ee:Qn l n x=5:=by unfold Qn;rw[if_pos ok]
  rw[if_neg (show ¬((H l)<=100000/\0<=n/\n<=(H l)) from ok)]at o1;subst o1;rw[ee];have y2:=Yh x1 0;have ZV:h.size+2<h1.size:=mD;have Xb:¬h.size+2=h1.size:=mD;simp -implicitDefEqProofs only[go_sem,y2,Xb,ZV];exact⟨⟨_,rfl,YB.nil _ _ _⟩,(B1.Zu mD _).Y1 vI _⟩
 rw[if_pos (show ((H l)<=100000/\0<=n/\n<=(H l)) from ok)]at o1;obtain⟨w,rfl,o1⟩:=o1;obtain⟨pw,cw,rfl,_⟩:=o1.open;have bt1:=b1.get mD t1;have r1:rd h1 ⟨h.size+1,0,O⟩ 8=Q (Zv x):=ZA bt1 rfl;unfold Zv at r1;have aK:¬h.size+1=h1.size:=mD;simp -implicitDefEqProofs only[go_sem,r1,aK];have b2:Zk h1.size h1 (h1.push (K [J pw (H l) cw,D t n].toArray 61)):=Zk.push (R _) _;refine (Ki T _ ⟨0,0⟩ (J O 0 0) [] x (Qw.nil 0 97 Zv 8 _).ts sW).use ?_;rintro _ h3 ⟨⟨w1,rfl,q1⟩,b3⟩;have B3:Zk h1.size h1 h3:=b2.trans (b3.mono b2.size);rw[iM]at q1 ⊢;obtain⟨p1,c1,gX,_⟩:=q1.open;have s3:=B3.size;have x3:=B3.get mD x1;have th:=B1.trans (B3.mono mD);by_cases may:Yu x
 case neg=>
  have ee:Qn l n x=2:=by unfold Qn;rw[if_neg (fun hn=>hn ok),if_pos may]
  rw[if_neg may]at gX;rw[ee,if_neg may];subst gX;have y2:=Yh x3 0;have ZV:h.size+2<h3.size:=mD;have Xb:¬h.size+2=h3.size:=mD;unfold XC;simp -implicitDefEqProofs only[go_sem,y2,Xb,ZV];exact⟨⟨_,rfl,YB.nil _ _ _⟩,(th.Zu mD _).Y1 vI _⟩
 have ee:Qn l n x=JX l n 33:=by unfold Qn;rw[if_neg (fun hn=>hn ok),if_neg (fun hn=>hn may)]
 rw[if_pos may]at gX;rw[ee,if_pos may];obtain⟨⟨m1,m2⟩,⟨⟨m3,m4⟩,m5,m6⟩,mc⟩:=may;obtain⟨xs,⟨br,bn⟩,xk,xc,xss,xn,xv⟩:=x;simp only at m1 m2 m3 m4 m5 m6 mc;obtain⟨k,c2,s2,nm,vv,rfl,rfl,rfl,rfl,rfl,_⟩:=KT mc;obtain⟨sl,rfl⟩:∃r:Nat,xs=r:=⟨xs.toNat,mD⟩
 obtain⟨r,rfl⟩:∃r:Nat,br=r:=⟨br.toNat,mD⟩
 obtain⟨m,rfl⟩:∃m:Nat,bn=m:=⟨bn.toNat,mD⟩
 unfold Uc;rw[if_pos rfl]at gX;subst gX;unfold XC;have t3:=B3.get mD (b1.get mD t0);have t13:=B3.get mD bt1;have rc:rd h3 ⟨h.size+1,3,O⟩ 5=Q (UL k c2 s2 nm vv):=by rw[YI t13 (by simp[Zv])];rfl
 unfold UL at rc;have ZtQ:¬h.size+1=h3.size:=mD;simp -implicitDefEqProofs only[go_sem,rc,ZtQ];obtain⟨g0,hg0⟩:=ZP (h3.push (K [D t (r:Nat),D t (m:Nat),J p1 (Jh [] ⟨sl,⟨r,m⟩,k,c2,s2,nm,vv⟩).length c1].toArray 66):Hp);have e3:h3.push (K #[Value.int t (r:Nat),D t (m:Nat),J p1 (Jh [] ⟨sl,⟨r,m⟩,k,c2,s2,nm,vv⟩).length c1] 66)=g0:=hg0.symm;rw[e3];have bg0:Zk h3.size h3 g0:=by rw[hg0];exact Zk.push (R _) _
 have sg0:g0.size=h3.size+1:=by rw[hg0];simp
 clear e3 hg0;refine (EX T g0 k c2 s2 nm vv).use ?_;rintro _ g ⟨⟨wc,rfl,sC⟩,bg1⟩;rw[mc,if_pos rfl]at sC;simp only[S]at sC ⊢;rw[mc];have lC:(ZK [k,c2,s2,nm,vv]).length=20:=by rw[ZW];rfl
 generalize ZK [k,c2,s2,nm,vv]=CB at *;obtain⟨pc,cc,rfl,_⟩:=sC.open;have bg:Zk h3.size h3 g:=bg0.trans (bg1.mono mD);have sg:h3.size+1<=g.size:=by have:=bg1.size;omega
 have Bg:Zk h.size h g:=th.trans (bg.mono mD);have x4g:=bg.get mD x3;have t4:=bg.get mD t3;have t14:=bg.get mD t13;have r0:rd g ⟨h.size,0,O⟩ 2=Q [J p (H l) c,D t n]:=ZA t4 rfl;have c0:V.hc g ⟨h.size+1,0,O⟩=Q (D t (sl:Nat)):=by rw[Zn t14];rfl
 have c1':V.hc g ⟨h.size+1,1,O⟩=Q (D t (r:Nat)):=by rw[Zn t14];rfl
 have c2':V.hc g ⟨h.size+1,2,O⟩=Q (D t (m:Nat)):=by rw[Zn t14];rfl
 have k0:h.size<g.size:=mD;have k1:h.size+1<g.size:=mD;simp -implicitDefEqProofs only[go_sem];refine VS.z (g.size) [18,19] (.q 0 (.p 2 (.q 3 (.p 4 (.p 5 (.q 6 (.p 7 (.p 8 (.q 9 (.p 13 (.or 1 (.s 10 (.s 11 (.s 12 (.s 14 (.s 15 (.p 16 (.p 17 (.w 18 (.w 19 .nil))))))))) (.s 10 (.or 1 (.s 11 (.s 12 (.s 14 (.s 15 (.p 16 (.p 17 (.w 18 (.w 19 .nil)))))))) (.s 11 (.s 1 (.s 12 (.s 14 (.s 15 (.p 16 (.p 17 (.w 18 (.w 19 .nil)))))))))))))))))))))) mixed sV ?_;simp -implicitDefEqProofs only[go_sem,r0,c0,c1',c2',k0,k1];refine⟨?_,?_,?_⟩
 .have o0:YB g.size 5 (g.push (K (([2]:List Nat).map bv).toArray 5)) (J (Q ⟨g.size,0,O⟩) 1 1) [2]:=YB.made KC (R _);have B0:Zk g.size g ((g.push (K (([2]:List Nat).map bv).toArray 5)).push (K (([sl,r,m]:List Nat).map nv).toArray 3)):=(Zk.push (R _) _).Y1 sW _;have o00:=o0.push (K (([sl,r,m]:List Nat).map nv).toArray 3);have si:NT ((g.push (K (([2]:List Nat).map bv).toArray 5)).push (K (([sl,r,m]:List Nat).map nv).toArray 3)) (J (Q ⟨(g.push (K (([2]:List Nat).map bv).toArray 5)).size,0,O⟩) 3 3) [sl,r,m]:=VM _ _;have e1:(g.push (K (([2]:List Nat).map bv).toArray 5)).size=g.size+1:=sW;rw[e1]at si;refine (S5 T _ _ [sl,r,m] si sW (by intro x hx;simp only[bo,bc,or_false]at hx;omega)).use ?_;rintro w5 h5 ⟨o5,b5⟩;have BB:=B0.trans (b5.mono B0.size);have o1:=o00.YJ b5 (R _);have s4:=o5.bs;simp -implicitDefEqProofs only[go_sem,BB];refine ZR (E:=5) (B:=g.size) Xn a5 TX SN SM o1 BB.size s4 (by rw[ZW];simp) ?_;intro w6 h6 o6 b6 _;have B6:Zk g.size g h6:=BB.trans b6;have xP:YB g.size 5 h6 w6 (2 :: ZK [sl,r,m]):=o6;have l6:(2 :: ZK [sl,r,m]).length=13:=by simp only[au,ZW,a6]
  simp -implicitDefEqProofs only[go_sem,B6];refine ZR (E:=5) (B:=g.size) Xn a5 TX SN SM xP B6.size (sC.YJ B6) mD ?_;intro w7 h7 o7 b7 _;have B7:Zk g.size g h7:=B6.trans b7;have FW:=Bg.trans (B7.mono mD);have o7':YB g.size 5 h7 w7 (2 :: (ZK [sl,r,m]++CB)):=o7;have el:(2 :: (ZK [sl,r,m]++CB)).length=33:=by rw[au,U,lC,ZW];rfl
  simp -implicitDefEqProofs only[go_sem,B7];refine (S4 T h7 _ w7 n l (2 :: (ZK [sl,r,m]++CB)) (s.YJ FW) hl o7'.bs mD (tk.QH FW)).use ?_;rintro _ h8 ⟨⟨w8,rfl,o8⟩,b8⟩;rw[el]at o8 ⊢;have B8:Zk g.size g h8:=B7.trans (b8.mono B7.size);have Bh8:=FW.trans (b8.mono FW.size);have x8:=B8.get mD x4g;have y8:=Yh x8 0;have yn:h.size+2<h8.size:=Za x8;generalize YS (2 :: (ZK [sl,r,m]++CB))=FR at *;obtain⟨E,hE⟩:=ZP (JX l n 33);rw[<-hE]at o8 ⊢;obtain⟨z,hz⟩:∃z:Int,z=if E=0 then n else 0:=⟨_,rfl⟩
  rw[<-hz];obtain⟨pz,cz,rfl,_⟩:=o8.open;simp -implicitDefEqProofs only[go_sem,B8,y8,yn];refine⟨⟨_,rfl,?_⟩,Bh8.Zu mD _⟩;exact (o8.Yi (by have:=B7.size;omega) _).mono (by have:=B7.size;omega)
 .have B0a:Zk g.size g (g.push (K (([sl,r,m]:List Nat).map nv).toArray 3)):=Zk.push (R _) _;have o0:YB g.size 5 ((g.push (K (([sl,r,m]:List Nat).map nv).toArray 3)).push (K (([2]:List Nat).map bv).toArray 5)) (J (Q ⟨(g.push (K (([sl,r,m]:List Nat).map nv).toArray 3)).size,0,O⟩) 1 1) [2]:=(YB.made KC (R _)).mono sW;have B0:Zk g.size g ((g.push (K (([sl,r,m]:List Nat).map nv).toArray 3)).push (K (([2]:List Nat).map bv).toArray 5)):=B0a.Y1 sW _;have si0:NT (g.push (K (([sl,r,m]:List Nat).map nv).toArray 3)) (J (Q ⟨g.size,0,O⟩) 3 3) [sl,r,m]:=VM _ _;have si:=si0.YJ (Zk.push (R _) (K (([2]:List Nat).map bv).toArray 5));have e1:(g.push (K (([sl,r,m]:List Nat).map nv).toArray 3)).size=g.size+1:=sW;rw[e1]at o0;refine (S5 T _ _ [sl,r,m] si sW (by intro x hx;simp only[bo,bc,or_false]at hx;omega)).use ?_;rintro w5 h5 ⟨o5,b5⟩;have BB:=B0.trans (b5.mono B0.size);have o1:=o0.YJ b5 (R _);have s4:=o5.bs;simp -implicitDefEqProofs only[go_sem,BB];refine ZR (E:=5) (B:=g.size) Xn a5 TX SN SM o1 BB.size s4 (by rw[ZW];simp) ?_;intro w6 h6 o6 b6 _;have B6:Zk g.size g h6:=BB.trans b6;have xP:YB g.size 5 h6 w6 (2 :: ZK [sl,r,m]):=o6;have l6:(2 :: ZK [sl,r,m]).length=13:=by simp only[au,ZW,a6]
  simp -implicitDefEqProofs only[go_sem,B6];refine ZR (E:=5) (B:=g.size) Xn a5 TX SN SM xP B6.size (sC.YJ B6) mD ?_;intro w7 h7 o7 b7 _;have B7:Zk g.size g h7:=B6.trans b7;have FW:=Bg.trans (B7.mono mD);have o7':YB g.size 5 h7 w7 (2 :: (ZK [sl,r,m]++CB)):=o7;have el:(2 :: (ZK [sl,r,m]++CB)).length=33:=by rw[au,U,lC,ZW];rfl
  simp -implicitDefEqProofs only[go_sem,B7];refine (S4 T h7 _ w7 n l (2 :: (ZK [sl,r,m]++CB)) (s.YJ FW) hl o7'.bs mD (tk.QH FW)).use ?_;rintro _ h8 ⟨⟨w8,rfl,o8⟩,b8⟩;rw[el]at o8 ⊢;have B8:Zk g.size g h8:=B7.trans (b8.mono B7.size);have Bh8:=FW.trans (b8.mono FW.size);have x8:=B8.get mD x4g;have y8:=Yh x8 0;have yn:h.size+2<h8.size:=Za x8;generalize YS (2 :: (ZK [sl,r,m]++CB))=FR at *;obtain⟨E,hE⟩:=ZP (JX l n 33);rw[<-hE]at o8 ⊢;obtain⟨z,hz⟩:∃z:Int,z=if E=0 then n else 0:=⟨_,rfl⟩
  rw[<-hz];obtain⟨pz,cz,rfl,_⟩:=o8.open;simp -implicitDefEqProofs only[go_sem,B8,y8,yn];refine⟨⟨_,rfl,?_⟩,Bh8.Zu mD _⟩;exact (o8.Yi (by have:=B7.size;omega) _).mono (by have:=B7.size;omega)
 .have B0a:Zk g.size g (g.push (K (([sl,r,m]:List Nat).map nv).toArray 3)):=Zk.push (R _) _;have si:NT (g.push (K (([sl,r,m]:List Nat).map nv).toArray 3)) (J (Q ⟨g.size,0,O⟩) 3 3) [sl,r,m]:=VM _ _;refine (S5 T _ _ [sl,r,m] si sW (by intro x hx;simp only[bo,bc,or_false]at hx;omega)).use ?_;rintro w5 h5 ⟨o5,b5⟩;have BB5:=B0a.trans (b5.mono B0a.size);have BB:Zk g.size g (h5.push (K (([2]:List Nat).map bv).toArray 5)):=BB5.Y1 BB5.size _;have o1:YB g.size 5 (h5.push (K (([2]:List Nat).map bv).toArray 5)) (J (Q ⟨h5.size,0,O⟩) 1 1) [2]:=(YB.made KC (R _)).mono BB5.size;have s4:=o5.bs.YJ (Zk.push (R h5.size) (K (([2]:List Nat).map bv).toArray 5));simp -implicitDefEqProofs only[go_sem,BB5,BB];refine ZR (E:=5) (B:=g.size) Xn a5 TX SN SM o1 BB.size s4 (by rw[ZW];simp) ?_;intro w6 h6 o6 b6 _;have B6:Zk g.size g h6:=BB.trans b6;have xP:YB g.size 5 h6 w6 (2 :: ZK [sl,r,m]):=o6;have l6:(2 :: ZK [sl,r,m]).length=13:=by simp only[au,ZW,a6]
  simp -implicitDefEqProofs only[go_sem,B6];refine ZR (E:=5) (B:=g.size) Xn a5 TX SN SM xP B6.size (sC.YJ B6) mD ?_;intro w7 h7 o7 b7 _;have B7:Zk g.size g h7:=B6.trans b7;have FW:=Bg.trans (B7.mono mD);have o7':YB g.size 5 h7 w7 (2 :: (ZK [sl,r,m]++CB)):=o7;have el:(2 :: (ZK [sl,r,m]++CB)).length=33:=by rw[au,U,lC,ZW];rfl
  simp -implicitDefEqProofs only[go_sem,B7];refine (S4 T h7 _ w7 n l (2 :: (ZK [sl,r,m]++CB)) (s.YJ FW) hl o7'.bs mD (tk.QH FW)).use ?_;rintro _ h8 ⟨⟨w8,rfl,o8⟩,b8⟩;rw[el]at o8 ⊢;have B8:Zk g.size g h8:=B7.trans (b8.mono B7.size);have Bh8:=FW.trans (b8.mono FW.size);have x8:=B8.get mD x4g;have y8:=Yh x8 0;have yn:h.size+2<h8.size:=Za x8;generalize YS (2 :: (ZK [sl,r,m]++CB))=FR at *;obtain⟨E,hE⟩:=ZP (JX l n 33);rw[<-hE]at o8 ⊢;obtain⟨z,hz⟩:∃z:Int,z=if E=0 then n else 0:=⟨_,rfl⟩
  rw[<-hz];obtain⟨pz,cz,rfl,_⟩:=o8.open;simp -implicitDefEqProofs only[go_sem,B8,y8,yn];refine⟨⟨_,rfl,?_⟩,Bh8.Zu mD _⟩;exact (o8.Yi (by have:=B7.size;omega) _).mono (by have:=B7.size;omega)
structure Qo where
 p:Yg
 l:List Vt
def aV(b:List Nat):Vt->Vt:=fun v=>⟨v.Zs,v.b,XZ b 0,XZ b 4,XZ b 8,XZ b 12,XZ b 16⟩
def Jx(a:Qo)(b:List Nat):Option Qo:=
 if (H b)=9/\b.getD 0 0=1 then (if YF a.p a.l ⟨XZ b 1,XZ b 5⟩=0 then Q ⟨⟨XZ b 1,XZ b 5⟩,a.l⟩ else O)
 else if (H b)=33/\b.getD 0 0=2 then (if Qx (b.drop 13)≠0 then O else
  if Xc a.p a.l (aV (b.drop 13) ⟨XZ b 1,⟨XZ b 5,XZ b 9⟩,0,0,0,0,0⟩)=0 then Q ⟨⟨XZ b 5,XZ b 9⟩,Jh a.l (aV (b.drop 13) ⟨XZ b 1,⟨XZ b 5,XZ b 9⟩,0,0,0,0,0⟩)⟩ else O)
 else O
def CX(B:Nat)(h':Hp)(v':aX)(a:Qo)(b:List Nat):Prop:=∃P p m c,v'=.tuple [aa (XC P (J p m c)).toArray,al (Jx a b).isSome].toArray/\∀x,Jx a b=Q x->P=x.p/\Qw B 97 Zv 8 h' (J p m c) x.l
theorem QR(l:List Nat)(k i:Nat):XZ (l.drop k) i=XZ l (k+i):=by
 have e:∀j,(l.drop k).getD j 0=l.getD (k+j) 0:=fun j=>by rw[a9,a9,List.getElem?_drop]
 unfold XZ;rw[e,e,e,e];rfl
theorem ZcP(h:Hp)(v:aX)(l:List Nat)(s:Bs h v l)(hi:4<=(H l))(hl:(H l)<=140737488355328):
  Zg aF T 79 #[v] h fun v' h'=>v'=D t (XZ l 0:Nat)/\h'=h:=by
 obtain⟨p,c,rfl,Vx⟩:=s.Vn;refine Zg.XK [_] Tryz.func79 ?_;obtain⟨b,o,rfl,hb,XH⟩:=Vx (by intro e;subst e;simp at hi);have c0:=XH 0 mD;have c1:=XH 1 mD;have c2:=XH 2 mD;have c3:=XH 3 mD;have w0:=Z3 s.byte 0;have w1:=Z3 s.byte 1;have w2:=Z3 s.byte 2;have w3:=Z3 s.byte 3;have e4:=Cu w0 w1 w2 w3;have n0:(0:Int)<(H l):=mD;have n1:(1:Int)<(H l):=mD;have n2:(2:Int)<(H l):=mD;have n3:(3:Int)<(H l):=mD;rw[bf]at c0;unfold XZ;rw[a4,a4,a4];generalize l.getD 0 0=a0 at *;generalize l.getD 1 0=a1 at *;generalize l.getD 2 0=a2 at *;generalize l.getD 3 0=a3 at *;simp -implicitDefEqProofs only[go_sem];refine VS.q mixed sV ?_;simp -implicitDefEqProofs only[go_sem,c0,c1,c2,c3,n0,n1,n2,n3,e4]
 trace_state
theorem Od(h:Hp)(bb oo d d' m m0:Nat)(b:List Nat)(k:Nat)(s:Bs h (J (Q ⟨bb,oo,O⟩) m0 d) b)(hm0:(H b)=m0)(hk:k+4<=m0)(hm:m=m0-k)(hl:m0<=100000):
  Zg aF T 79 #[J (Q ⟨bb,oo+k,O⟩) m d'] h fun v' h'=>v'=D t (XZ b k:Nat)/\h'=h:=by
 subst hm;have s1:=RJ s (k:=k) (by omega) hm0 d';have:=ZcP T h _ (b.drop k) s1 (by rw[an];omega) (by rw[an];omega);rw[QR]at this;exact this
theorem iN(l:List Nat)(h:Qx l=0):Gi l=[D t (XZ l 0),D t (XZ l 4),D t (XZ l 8),D t (XZ l 12),D t (XZ l 16)]:=by
 unfold Gi;rw[if_pos h];rfl
theorem pR(l:List Nat)(h:¬Qx l=0):Gi l=[D t 0,D t 0,D t 0,D t 0,D t 0]:=by
 unfold Gi;rw[if_neg h];rfl
set_option maxHeartbeats 1000000 in
theorem yo(h:Hp)(P:Yg)(pv:Option Addr)(cv:Nat)(l:List Vt)(q:Option Addr)(m d:Nat)(b:List Nat)(s:Ts Zv 8 h (J pv (H l) cv) l)(sb:Bs h (J q m d) b)(hm:(H b)=m)(hl:(H l)<=1000000)(hb:m<=1000)(hd:m<=d):
  Zg aF T 49 #[aa (XC P (J pv (H l) cv)).toArray,J q m d] h fun v' h'=>CX h.size h' v' ⟨P,l⟩ b/\Zk h.size h h':=by
 refine Zg.LY [_,_] Tryz.func49 ?_;unfold XC;simp -implicitDefEqProofs only[go_sem];obtain⟨h0,J9⟩:=ZP ((h.push (K (XC P (J pv (H l) cv)).toArray 66)).push (K [D t 0,D t 0,J O 0 0].toArray 66):Hp);have b0:Zk h.size h h0:=by rw[J9];exact ((Zk.refl _ _).add _).add _
 have s0:h0.size=h.size+2:=by rw[J9];simp
 have x0:h0[h.size]? = Q (K (XC P (J pv (H l) cv)).toArray 66):=by
  rw[J9,W,if_neg (by simp),Zd]
 have z0:h0[h.size+1]? = Q (K [D t 0,D t 0,J O 0 0].toArray 66):=by
  rw[J9,W,if_pos (by simp)]
 have e0:(h.push (K #[Value.int t P.r,D t P.n,J pv (H l) cv] 66)).push (K #[Value.int t 0,D t 0,J O 0 0] 66)=h0:=J9.symm;rw[e0];clear e0 J9;have fin:∀(G:Hp) (k:Nat) (w:List aX),(H w)=3->w.all YN=true->G[k]? = Q (K [D t 0,D t 0,J O 0 0].toArray 66)->wr G ⟨k,0,O⟩ w=Q (G.setIfInBounds k (K w.toArray 66)):=by
  intro G k w h3 h1 hx;rw[Yh (b:=k) hx 0 w,Yb (by rw[h3];rfl),if_pos ⟨by rw[h3];simp,h1⟩]
 have sb0:=sb.YJ b0;have s0':=s.YJ b0;have r0:rd h0 ⟨h.size,0,O⟩ 3=Q [D t P.r,D t P.n,J pv (H l) cv]:=ZA x0 rfl;have k0:h.size<h0.size:=by omega
 have k1:h.size+1<h0.size:=by omega
 unfold CX;by_cases n9:m=9
 .subst n9;have k9:((9:Nat):Int)=9:=rfl;obtain⟨q',d',hv,hh⟩:=sb0.Vn;simp only[Value.slice.injEq]at hv;obtain⟨rfl,_,rfl⟩:=hv;obtain⟨bb,oo,rfl,Tu,XH⟩:=hh (by intro e;subst e;simp at hm);have c0:=XH 0 (by omega);rw[bf]at c0;by_cases q1:b.getD 0 0=1
  case neg=>
   have q1':¬((b.getD 0 0:Nat):Int)=1:=by omega
   have e:Jx ⟨P,l⟩ b=O:=by
    unfold Jx;rw[if_neg (fun hn=>q1 hn.2),if_neg (fun hn=>by omega)]
   have wz:=fin h0 (h.size+1) [D t P.r,D t P.n,J pv (H l) cv] rfl rfl z0;simp -implicitDefEqProofs only[go_sem,k9,c0,q1',e,r0,wz,k1];exact⟨⟨P,pv,(H l),cv,rfl,by simp⟩,b0.Zu (by omega) _⟩
  rw[q1]at c0;have e1:((1:Nat):Int)=1:=rfl;rw[e1]at c0;obtain⟨X,hX⟩:∃X:Yg,X=⟨XZ b 1,XZ b 5⟩:=⟨_,rfl⟩
  have e:Jx ⟨P,l⟩ b=if YF P l X=0 then Q ⟨X,l⟩ else O:=by
   unfold Jx;rw[if_pos ⟨hm,q1⟩,hX]
  have call:∀G,Ts Zv 8 G (J pv (H l) cv) l->Zg aF T 78 #[aa #[D t P.r,D t P.n,J pv (H l) cv],aa #[D t (XZ b 1:Nat),D t (XZ b 5:Nat)]] G fun v' h'=>AZ G.size h' v' P l X/\Zk G.size G h':=fun G sG=>by
   rw[hX];exact RF T G P _ l _ sG (by omega)
  clear hX;have d1:¬d=1:=by omega
  have d5:¬d=5:=by omega
  have yp:=sb0;simp -implicitDefEqProofs only[go_sem,k9,c0];refine VS.mono (N:=fun F' g'=>Zk h0.size h0 g'/\F' 4=ak (Q ⟨h.size+1,0,O⟩)/\F' 8=D t (YF P l X)/\∃A p1 c1,h0.size<=A/\F' 6=ak (Q ⟨A,0,O⟩)/\g'[A]? = Q (K (XC (if YF P l X=0 then X else ⟨0,0⟩) (J p1 (if YF P l X=0 then l else []).length c1)).toArray 66)/\Qw h0.size 97 Zv 8 g' (J p1 (if YF P l X=0 then l else []).length c1) (if YF P l X=0 then l else [])) ?_ ?_ (fun _ _ _ h=>h) (fun _ _ h=>h)
  .refine VS.z (h0.size) [] (.q 0 (.p 1 (.p 2 (.p 4 (.p 5 (.or 3 (.or 6 (.p 7 (.or 8 (.p 9 (.p 10 (.p 11 (.p 12 (.s 13 (.s 14 (.p 15 (.p 16 .nil)))))))) (.s 13 (.s 8 (.p 9 (.p 10 (.p 11 (.p 12 (.s 14 (.p 15 (.p 16 .nil))))))))))) (.s 13 (.s 6 (.p 7 (.s 8 (.p 9 (.p 10 (.p 11 (.p 12 (.s 14 (.p 15 (.p 16 .nil)))))))))))) (.s 13 (.s 3 (.s 6 (.p 7 (.s 8 (.p 9 (.p 10 (.p 11 (.p 12 (.s 14 (.p 15 (.p 16 .nil)))))))))))))))))) mixed (by kernel_rfl) ?_;simp -implicitDefEqProofs only[go_sem,r0,k0,k9,d1,d5,c0,S]
   repeat' (first
     | with_reducible exact Zk.refl _ _
     | with_reducible exact Zk.push (by omega) _
     | (with_reducible refine (Od T _ bb oo d _ _ _ b 1 (by first|exact yp|exact yp.YJ (Zk.push (R _) _)) hm (by omega) rfl (by omega)).pure ?_;simp -implicitDefEqProofs only[go_sem,r0,k0,c0,S])
     | (with_reducible refine (Od T _ bb oo d _ _ _ b 5 (by first|exact yp|exact yp.YJ (Zk.push (R _) _)) hm (by omega) rfl (by omega)).pure ?_;simp -implicitDefEqProofs only[go_sem,r0,k0,c0,S])
     | with_reducible refine And.intro ?_ ?_)
   all_goals first
    | (refine (call h0 s0').use ?_
       rintro _ g1 ⟨⟨w1,w2,rfl,o1,o2⟩,b1⟩;obtain⟨p1,c1,rfl,_⟩:=o1.open;obtain⟨p2,c2,rfl,_⟩:=o2.open;generalize (if YF P l X=0 then X else ⟨0,0⟩)=Y at *;generalize (if YF P l X=0 then l else [])=L at *;generalize YF P l X=E at *;have s1:=b1.size;unfold XC;simp -implicitDefEqProofs only[go_sem,b1];exact⟨_,_,_,s1,rfl,Zd,o1.push _⟩)
    | (refine (call (h0.push (K [D t 0,D t 0,J O 0 0].toArray 66)) (s0'.YJ (Zk.push (R _) _))).use ?_
       rintro _ g1 ⟨⟨w1,w2,rfl,o1,o2⟩,b1⟩;obtain⟨p1,c1,rfl,_⟩:=o1.open;obtain⟨p2,c2,rfl,_⟩:=o2.open;generalize (if YF P l X=0 then X else ⟨0,0⟩)=Y at *;generalize (if YF P l X=0 then l else [])=L at *;generalize YF P l X=E at *;have B1:Zk h0.size h0 g1:=(Zk.push (R _) _).trans (b1.mono (by simp));have xA:=b1.get (by simp) Zd;have yA:=fin g1 h0.size [D t Y.r,D t Y.n,J p1 (H L) c1] rfl rfl xA;have hz:=Za xA;unfold XC;simp -implicitDefEqProofs only[go_sem,B1,yA,hz];exact⟨_,_,_,R _,rfl,ZQ xA,(o1.Yi (b:=h0.size) (by simp) _).mono (by simp)⟩)
  .rintro F' g' ⟨hB,f4,f8,A,p1,c1,hA,f6,xA,oA⟩;have z1:=hB.get (by omega) z0;have k1':=Za z1;have rA:rd g' ⟨A,0,O⟩ 3=_:=ZA xA rfl;generalize hY:(if YF P l X=0 then X else ⟨0,0⟩)=Y at *;generalize hL:(if YF P l X=0 then l else [])=L at *;generalize YF P l X=E at *;unfold XC at rA;have wz:=fin g' (h.size+1) [D t Y.r,D t Y.n,J p1 (H L) c1] rfl rfl z1;have bb':Zk h.size h (g'.setIfInBounds (h.size+1) (K [D t Y.r,D t Y.n,J p1 (H L) c1].toArray 66)):=(b0.trans (hB.mono (by omega))).Zu (by omega) _;by_cases q:E=0
   .rw[if_pos q]at e hY hL;simp -implicitDefEqProofs only[go_sem,f4,f6,f8,rA,wz,k1',q,e];refine⟨⟨Y,p1,(H L),c1,rfl,fun x hx=>?_⟩,bb'⟩
    cases hx
    exact⟨hY.symm,by rw[hL];exact (oA.Yi (by omega) _).mono (by omega)⟩
   .rw[if_neg q]at e;simp -implicitDefEqProofs only[go_sem,f4,f6,f8,rA,wz,k1',q,e];exact⟨⟨Y,p1,(H L),c1,rfl,by simp⟩,bb'⟩
 have n9':¬(m:Int)=9:=by omega
 by_cases n33:m=33
 case neg=>
  have ZtS:¬(m:Int)=33:=by omega
  have e:Jx ⟨P,l⟩ b=O:=by
   unfold Jx;rw[if_neg (fun hn=>by omega),if_neg (fun hn=>by omega)]
  have wz:=fin h0 (h.size+1) [D t P.r,D t P.n,J pv (H l) cv] rfl rfl z0;simp -implicitDefEqProofs only[go_sem,n9',ZtS,e,r0,wz,k1];exact⟨⟨P,pv,(H l),cv,rfl,by simp⟩,b0.Zu (by omega) _⟩
 subst n33;have k33:((33:Nat):Int)=33:=rfl;clear n9';obtain⟨q',d',hv,hh⟩:=sb0.Vn;simp only[Value.slice.injEq]at hv;obtain⟨rfl,_,rfl⟩:=hv;obtain⟨bb,oo,rfl,Tu,XH⟩:=hh (by intro e;subst e;simp at hm);have c0:=XH 0 (by omega);rw[bf]at c0;by_cases q2:b.getD 0 0=2
 case neg=>
  have q2':¬((b.getD 0 0:Nat):Int)=2:=by omega
  have e:Jx ⟨P,l⟩ b=O:=by
   unfold Jx;rw[if_neg (fun hn=>by omega),if_neg (fun hn=>q2 hn.2)]
  have wz:=fin h0 (h.size+1) [D t P.r,D t P.n,J pv (H l) cv] rfl rfl z0;simp -implicitDefEqProofs only[go_sem,k33,c0,q2',e,r0,wz,k1];exact⟨⟨P,pv,(H l),cv,rfl,by simp⟩,b0.Zu (by omega) _⟩
 rw[q2]at c0;have e2:((2:Nat):Int)=2:=rfl;rw[e2]at c0;have d13:¬d=13:=by omega
 have d33:(33:Int)<=(d:Int):=by omega
 have s13:=fun c'=>RJ sb0 (k:=13) (by omega) hm c';simp -implicitDefEqProofs only[go_sem,k33,c0,d13,d33,S];refine (EY T h0 _ (b.drop 13) (s13 _) (by rw[an];omega)).use ?_;rintro _ g ⟨rfl,bg⟩;have sg:=bg.size;by_cases q3:Qx (b.drop 13)=0
 case neg=>
  have e:Jx ⟨P,l⟩ b=O:=by
   unfold Jx;rw[if_neg (fun hn=>by omega),if_pos ⟨hm,q2⟩,if_pos q3]
  rw[pR _ q3];have zg:=bg.get k1 z0;have xg:=bg.get k0 x0;have rg:rd g ⟨h.size,0,O⟩ 3=Q [D t P.r,D t P.n,J pv (H l) cv]:=ZA xg rfl;have wz:=fin g (h.size+1) [D t P.r,D t P.n,J pv (H l) cv] rfl rfl zg;have ZtU:¬h.size=g.size:=by omega
  have aK:¬h.size+1=g.size:=by omega
  have yk:h.size+1<g.size:=by omega
  simp -implicitDefEqProofs only[go_sem,q3,e,rg,wz,ZtU,aK,yk];exact⟨⟨P,pv,(H l),cv,rfl,by simp⟩,((b0.trans (bg.mono (by omega))).Zu (by omega) _).Y1 (by simp;omega) _⟩
 rw[iN _ q3,q3];obtain⟨X,hX⟩:∃X:Vt,X=aV (b.drop 13) ⟨XZ b 1,⟨XZ b 5,XZ b 9⟩,0,0,0,0,0⟩:=⟨_,rfl⟩
 have e:Jx ⟨P,l⟩ b=if Xc P l X=0 then Q ⟨X.b,Jh l X⟩ else O:=by
  unfold Jx;rw[if_neg (fun hn=>by omega),if_pos ⟨hm,q2⟩,if_neg (fun hn=>hn q3),<-hX];rw[show (⟨((XZ b 5:Nat):Int),((XZ b 9:Nat):Int)⟩:Yg)=X.b by rw[hX];rfl]
 have call:∀G,Ts Zv 8 G (J pv (H l) cv) l->Zg aF T 80 #[aa #[D t P.r,D t P.n,J pv (H l) cv],aa #[D t (XZ b 1:Nat),D t (XZ b 5:Nat),D t (XZ b 9:Nat),D t (XZ (b.drop 13) 0:Nat),D t (XZ (b.drop 13) 4:Nat),D t (XZ (b.drop 13) 8:Nat),D t (XZ (b.drop 13) 12:Nat),D t (XZ (b.drop 13) 16:Nat)]] G fun v' h'=>kU G.size h' v' P l X/\Zk G.size G h':=fun G sG=>by
  rw[hX];exact Ki T G P _ l _ sG (by omega)
 clear hX;generalize XZ (b.drop 13) 0=y0 at *;generalize XZ (b.drop 13) 4=y4 at *;generalize XZ (b.drop 13) 8=y8 at *;generalize XZ (b.drop 13) 12=y12 at *;generalize XZ (b.drop 13) 16=y16 at *;obtain⟨h1,Xp⟩:=ZP (g.push (K [D t (y0:Nat),D t (y4:Nat),D t (y8:Nat),D t (y12:Nat),D t (y16:Nat)].toArray 49):Hp);have e1:g.push (K #[Value.int t (y0:Nat),D t (y4:Nat),D t (y8:Nat),D t (y12:Nat),D t (y16:Nat)] 49)=h1:=Xp.symm;simp -implicitDefEqProofs only[go_sem];rw[e1];have b1:Zk h0.size h0 h1:=by rw[Xp];exact bg.Y1 sg _
 have s1h:h1.size=g.size+1:=by rw[Xp];simp
 have c1h:h1[g.size]? = Q (K [D t (y0:Nat),D t (y4:Nat),D t (y8:Nat),D t (y12:Nat),D t (y16:Nat)].toArray 49):=by rw[Xp];exact Zd
 clear e1 Xp;have x1:=b1.get k0 x0;have z1h:=b1.get k1 z0;have r1:rd h1 ⟨h.size,0,O⟩ 3=Q [D t P.r,D t P.n,J pv (H l) cv]:=ZA x1 rfl;have rc1:rd h1 ⟨g.size,0,O⟩ 5=Q [D t (y0:Nat),D t (y4:Nat),D t (y8:Nat),D t (y12:Nat),D t (y16:Nat)]:=ZA c1h rfl;have c0h:hc h1 ⟨bb,oo,O⟩=Q (D .u8 2):=by rw[b1.hc (by exact Tu)];exact c0
 have k0h:h.size<h1.size:=by omega
 have kch:g.size<h1.size:=by omega
 have yp:=sb0.YJ b1;have s1':=s0'.YJ b1;have d1:¬d=1:=by omega
 have d5:¬d=5:=by omega
 have d9:¬d=9:=by omega
 have B1:Zk h.size h h1:=b0.trans (b1.mono (by omega));refine VS.mono (N:=fun F' g'=>Zk h1.size h1 g'/\F' 4=ak (Q ⟨h.size+1,0,O⟩)/\F' 10=D t (Xc P l X)/\∃A p1 c1,h1.size<=A/\F' 11=ak (Q ⟨A,0,O⟩)/\g'[A]? = Q (K (XC (if Xc P l X=0 then X.b else ⟨0,0⟩) (J p1 (if Xc P l X=0 then Jh l X else []).length c1)).toArray 66)/\Qw h1.size 97 Zv 8 g' (J p1 (if Xc P l X=0 then Jh l X else []).length c1) (if Xc P l X=0 then Jh l X else [])) ?_ ?_ (fun _ _ _ h=>h) (fun _ _ h=>h)
 .refine VS.z (h1.size) [] (.q 0 (.p 1 (.p 2 (.p 4 (.p 5 (.p 7 (.p 8 (.q 11 (.or 3 (.or 6 (.or 9 (.p 10 (.p 12 (.or 13 (.p 14 (.p 15 (.p 16 (.s 17 (.s 18 (.p 19 .nil)))))) (.s 17 (.s 13 (.p 14 (.p 15 (.p 16 (.s 18 (.p 19 .nil)))))))))) (.s 17 (.s 9 (.p 10 (.p 12 (.s 13 (.p 14 (.p 15 (.p 16 (.s 18 (.p 19 .nil))))))))))) (.s 17 (.s 6 (.s 9 (.p 10 (.p 12 (.s 13 (.p 14 (.p 15 (.p 16 (.s 18 (.p 19 .nil)))))))))))) (.s 17 (.s 3 (.s 6 (.s 9 (.p 10 (.p 12 (.s 13 (.p 14 (.p 15 (.p 16 (.s 18 (.p 19 .nil))))))))))))))))))))) mixed (by kernel_rfl) ?_;simp -implicitDefEqProofs only[go_sem,r1,rc1,k0h,kch,k33,d1,d5,d9,c0h,S]
  repeat' (first
    | with_reducible exact Zk.refl _ _
    | with_reducible exact Zk.push (by omega) _
    | (with_reducible refine (Od T _ bb oo d _ _ _ b 1 (by first|exact yp|exact yp.YJ (Zk.push (R _) _)) hm (by omega) rfl (by omega)).pure ?_;simp -implicitDefEqProofs only[go_sem,r1,rc1,k0h,kch,c0h,S])
    | (with_reducible refine (Od T _ bb oo d _ _ _ b 5 (by first|exact yp|exact yp.YJ (Zk.push (R _) _)) hm (by omega) rfl (by omega)).pure ?_;simp -implicitDefEqProofs only[go_sem,r1,rc1,k0h,kch,c0h,S])
    | (with_reducible refine (Od T _ bb oo d _ _ _ b 9 (by first|exact yp|exact yp.YJ (Zk.push (R _) _)) hm (by omega) rfl (by omega)).pure ?_;simp -implicitDefEqProofs only[go_sem,r1,rc1,k0h,kch,c0h,S])
    | with_reducible refine And.intro ?_ ?_)
  all_goals first
   | (refine (call h1 s1').use ?_
      rintro _ g1 ⟨⟨w1,rfl,o1⟩,b1⟩;obtain⟨p1,c1,rfl,_⟩:=o1.open;generalize (if Xc P l X=0 then X.b else ⟨0,0⟩)=Y at *;generalize (if Xc P l X=0 then Jh l X else [])=L at *;generalize Xc P l X=E at *;have s1:=b1.size;unfold XC;simp -implicitDefEqProofs only[go_sem,b1];exact⟨_,_,_,s1,rfl,Zd,o1.push _⟩)
   | (refine (call (h1.push (K [D t 0,D t 0,J O 0 0].toArray 66)) (s1'.YJ (Zk.push (R _) _))).use ?_
      rintro _ g1 ⟨⟨w1,rfl,o1⟩,b1⟩;obtain⟨p1,c1,rfl,_⟩:=o1.open;generalize (if Xc P l X=0 then X.b else ⟨0,0⟩)=Y at *;generalize (if Xc P l X=0 then Jh l X else [])=L at *;generalize Xc P l X=E at *;have B1:Zk h1.size h1 g1:=(Zk.push (R _) _).trans (b1.mono (by simp));have xA:=b1.get (by simp) Zd;have yA:=fin g1 h1.size [D t Y.r,D t Y.n,J p1 (H L) c1] rfl rfl xA;have hz:=Za xA;unfold XC;simp -implicitDefEqProofs only[go_sem,B1,yA,hz];exact⟨_,_,_,R _,rfl,ZQ xA,(o1.Yi (b:=h1.size) (by simp) _).mono (by simp)⟩)
 .rintro F' g' ⟨hB,f4,f8,A,p1,c1,hA,f6,xA,oA⟩;have z1:=hB.get (by omega) z1h;have k1':=Za z1;have rA:rd g' ⟨A,0,O⟩ 3=_:=ZA xA rfl;generalize hY:(if Xc P l X=0 then X.b else ⟨0,0⟩)=Y at *;generalize hL:(if Xc P l X=0 then Jh l X else [])=L at *;generalize Xc P l X=E at *;unfold XC at rA;have wz:=fin g' (h.size+1) [D t Y.r,D t Y.n,J p1 (H L) c1] rfl rfl z1;have bb':Zk h.size h (g'.setIfInBounds (h.size+1) (K [D t Y.r,D t Y.n,J p1 (H L) c1].toArray 66)):=(B1.trans (hB.mono (by omega))).Zu (by omega) _;by_cases q:E=0
  .rw[if_pos q]at e hY hL;simp -implicitDefEqProofs only[go_sem,f4,f6,f8,rA,wz,k1',q,e];refine⟨⟨Y,p1,(H L),c1,rfl,fun x hx=>?_⟩,bb'⟩
   cases hx
   exact⟨hY.symm,by rw[hL];exact (oA.Yi (by omega) _).mono (by omega)⟩
  .rw[if_neg q]at e;simp -implicitDefEqProofs only[go_sem,f4,f6,f8,rA,wz,k1',q,e];exact⟨⟨Y,p1,(H L),c1,rfl,by simp⟩,bb'⟩
theorem iO{h:Hp}{bp op m c k n off m' c':Nat}{l:List Nat}(s:Bs h (J (Q ⟨bp,op,O⟩) m c) l)(hm:(H l)=m)(hk:k+n<=m)(ho:off=op+k)(I3:m'=n):Bs h (J (Q ⟨bp,off,O⟩) m' c') ((l.drop k).take n):=by
 subst ho;subst I3;have s1:=RJ s (k:=k) (by omega) hm c';have e:m-k=(l.drop k).length:=by rw[an];omega
 rw[e]at s1;exact s1.Na (by rw[an];omega) c'
def WP(l:List Nat)(k:Nat):Nat:=1+l.getD k 0
def Y6(l:List Nat)(a:Qo)(k:Nat):Option (Qo × Nat):=
 if k<(H l)/\k+WP l k+4<=(H l)/\(TC ((l.drop k).take (WP l k))).take 4=(l.drop (k+WP l k)).take 4 then
  (Jx a ((l.drop (k+1)).take (WP l k-1))).map fun x=>(x,k+(WP l k+4))
 else O
inductive Rec(l:List Nat):Qo->Nat->Qo->Nat->Prop
 | stop {a:Qo} {k:Nat}:Y6 l a k=O->Rec l a k a k
 | go {a a' r:Qo} {k k' j:Nat}:Y6 l a k=Q (a',k')->Rec l a' k' r j->Rec l a k r j
def JG:Qo:=⟨⟨0,0⟩,[]⟩
def yq(B:Nat)(h':Hp)(v':aX)(l:List Nat)(n:Int):Prop:=∃(r:Qo) (k:Nat) (E:Int) (w:aX),v'=.tuple [aa (XC r.p w).toArray,D t k,D t E].toArray/\Qw B 97 Zv 8 h' w r.l/\k<=(H l)/\(H r.l)<=k /\
 if YT l n then E=0/\Rec l JG 0 r k else E=5/\r=JG/\k=0
theorem aW{l:List Vt}(hs:Srt l)(v:Vt):(Jh l v).length<=(H l)+1:=by
 have:∀l:List Vt,(l.filter (fun x=>decide (x.Zs<v.Zs))).length+(l.filter (fun x=>decide (v.Zs<x.Zs))).length<=(H l):=by
  intro l
  induction l with
  | nil=>simp
  | cons x l ih=>
   simp only[List.filter_cons,au];by_cases q1:x.Zs<v.Zs
   .rw[if_pos (by simpa using q1),if_neg vI,au];omega
   .rw[if_neg (by simpa using q1)];by_cases q2:v.Zs<x.Zs
    .rw[if_pos (by simpa using q2),au];omega
    .rw[if_neg (by simpa using q2)];omega
 have:=this l;unfold Jh;rw[U,au];omega
theorem CY{a x:Qo}{b:List Nat}(h:Jx a b=Q x):(H x.l)<=(H a.l)+1:=by
 unfold Jx at h;split at h
 .split at h
  .cases h;simp
  .cases h
 .split at h
  .split at h
   .cases h
   .split at h
    .rename_i q
     cases h
     have:Jw a.p a.l=0:=by
      unfold Xc at q;split at q
      .cases q
      .rename_i hn;simpa using hn
     exact aW (Gt this) _
    .cases h
  .cases h
set_option maxHeartbeats 2000000 in
theorem GM(h:Hp)(v:aX)(n:Int)(l:List Nat)(s:Bs h v l)(hl:(H l)<=140737488355328)(tk:Tk h):
  Zg aF T 30 #[aa [v,D t n].toArray] h fun v' h'=>yq h.size h' v' l n/\Zk h.size h h':=by
 obtain⟨p,c,rfl,_⟩:=s.open;refine Zg.LY [_] Tryz.func30 ?_;unfold yq;simp -implicitDefEqProofs only[go_sem];obtain⟨h0,J9⟩:=ZP ((h.push (K [J p (H l) c,D t n].toArray 61)).push (K [D t 0,D t 0,J O 0 0].toArray 66):Hp);have b0:Zk h.size h h0:=by rw[J9];exact ((Zk.refl _ _).add _).add _
 have s0:h0.size=h.size+2:=by rw[J9];simp
 have z0:h0[h.size+1]? = Q (K [D t 0,D t 0,J O 0 0].toArray 66):=by
  rw[J9,W,if_pos sW]
 have e0:(h.push (K #[Value.slice p (H l) c,D t n] 61)).push (K #[Value.int t 0,D t 0,J O 0 0] 66)=h0:=J9.symm;rw[e0];clear e0 J9;have fin:∀(G:Hp) (w:List aX),(H w)=3->w.all YN=true->G[h.size+1]? = Q (K [D t 0,D t 0,J O 0 0].toArray 66)->wr G ⟨h.size+1,0,O⟩ w=Q (G.setIfInBounds (h.size+1) (K w.toArray 66)):=by
  intro G w h3 h1 hx;rw[Yh (b:=h.size+1) hx 0 w,Yb (by rw[h3];rfl),if_pos ⟨by rw[h3];simp,h1⟩]
 refine (UB T h0 _ n l (s.YJ b0) hl).use ?_;rintro _ h1 ⟨b1,o1⟩;have s1:=b1.size;have B1:Zk h.size h h1:=b0.trans (b1.mono mD);have z1:=b1.get mD z0;by_cases ok:YT l n
 case neg=>
  rw[if_neg (show ¬((H l)<=100000/\0<=n/\n<=(H l)) from ok)]at o1;subst o1;have y2:=fin h1 [D t 0,D t 0,J O 0 0] rfl rfl z1;have ZV:h.size+1<h1.size:=mD;have Xb:¬h.size+1=h1.size:=mD;simp -implicitDefEqProofs only[go_sem,y2,Xb,ZV];refine⟨⟨JG,0,5,J O 0 0,rfl,Qw.nil _ _ _ _ _,bl _,R _,?_⟩,(B1.Zu mD _).Y1 vI _⟩;rw[if_neg ok];exact⟨rfl,rfl,rfl⟩
 rw[if_pos (show ((H l)<=100000/\0<=n/\n<=(H l)) from ok)]at o1;obtain⟨w,rfl,o1⟩:=o1;obtain⟨pw,cw,rfl,hcw⟩:=o1.open;have l1:=ok.1;obtain⟨h2,Tv⟩:=ZP ((h1.push (K [J pw (H l) cw,D t n].toArray 61)).push (K [D t 0,D t 0,J O 0 0].toArray 66):Hp);have e2:(h1.push (K #[Value.slice pw (H l) cw,D t n] 61)).push (K #[Value.int t 0,D t 0,J O 0 0] 66)=h2:=Tv.symm;simp -implicitDefEqProofs only[go_sem];rw[e2];have b2:Zk h1.size h1 h2:=by rw[Tv];exact ((Zk.refl _ _).add _).add _
 have s2:h2.size=h1.size+2:=by rw[Tv];simp
 have t2:h2[h1.size]? = Q (K [J pw (H l) cw,D t n].toArray 61):=by
  rw[Tv,W,if_neg sW,Zd]
 have a2:h2[h1.size+1]? = Q (K [D t 0,D t 0,J O 0 0].toArray 66):=by
  rw[Tv,W,if_pos sW]
 clear e2 Tv;have z2:=b2.get mD z1;obtain⟨A,hA⟩:=ZP (h1.size+1);rw[<-hA]at a2 ⊢;have sw:=o1.bs.YJ b2;have B2:Zk h.size h h2:=B1.trans (b2.mono mD);have tk2:Tk h2:=tk.QH B2;have blo:=o1.Zr.ZZ;refine VS.Yq (fun F g=>Zk A h2 g/\F 2=ak (Q ⟨h.size+1,0,O⟩)/\F 5=ak (Q ⟨h1.size,0,O⟩)/\F 7=ak (Q ⟨A,0,O⟩)/\∃(k:Nat) (a:Qo) (p1:Option Addr) (c1:Nat),k<=(H l)/\F 8=D t k/\g[A]? = Q (K (XC a.p (J p1 (H a.l) c1)).toArray 66)/\Qw (A+1) 97 Zv 8 g (J p1 (H a.l) c1) a.l/\(H a.l)<=k/\∀r j,Rec l a k r j->Rec l JG 0 r j)
  (fun F _=>(H l)-(vi (F 8)).toNat) rfl ⟨Zk.refl _ _,rfl,rfl,rfl,0,JG,O,0,bl _,rfl,a2,Qw.nil _ _ _ _ _,bl _,fun _ _ h=>h⟩ ?_
 rintro F g ⟨hg,f2,f5,f7,k,a,p1,c1,hk,f8,xa,oa,hal,Zlt⟩;have tg:=hg.get mD t2;have zg:=hg.get mD z2;have hzA:=Za xa;have fact:∀G,Zk g.size g G->V.hc G ⟨h1.size,0,O⟩=Q (J pw (H l) cw)/\rd G ⟨A,0,O⟩ 3=Q [D t a.p.r,D t a.p.n,J p1 (H a.l) c1] /\
   wr G ⟨h.size+1,0,O⟩ [D t a.p.r,D t a.p.n,J p1 (H a.l) c1]=Q (G.setIfInBounds (h.size+1) (K [D t a.p.r,D t a.p.n,J p1 (H a.l) c1].toArray 66))/\h.size+1<G.size/\Zk A h2 G /\
   G[A]? = Q (K (XC a.p (J p1 (H a.l) c1)).toArray 66)/\Qw (A+1) 97 Zv 8 G (J p1 (H a.l) c1) a.l/\Bs G (J pw (H l) cw) l:=by
  intro G hG;have tG:=hG.get mD tg;have zG:=hG.get mD zg;have xG:=hG.get mD xa;have bG:Zk A h2 G:=hg.trans (hG.mono mD);exact⟨by rw[Zn tG];rfl,ZA xG rfl,fin G _ rfl rfl zG,Za zG,bG,xG,oa.YJ hG (R _),o1.bs.YJ (b2.trans (bG.mono mD))⟩
 have done:∀G,Zk g.size g G->Y6 l a k=O->(∃(r:Qo) (k':Nat) (E:Int) (w:aX),Value.tuple [aa (XC a.p (J p1 (H a.l) c1)).toArray,D t (k:Nat),D t 0].toArray=.tuple [aa (XC r.p w).toArray,D t (k':Nat),D t E].toArray/\Qw h.size 97 Zv 8 (G.setIfInBounds (h.size+1) (K [D t a.p.r,D t a.p.n,J p1 (H a.l) c1].toArray 66)) w r.l/\k'<=(H l)/\(H r.l)<=k'/\if YT l n then E=0/\Rec l JG 0 r k' else E=5/\r=JG/\k'=0)/\Zk h.size h (G.setIfInBounds (h.size+1) (K [D t a.p.r,D t a.p.n,J p1 (H a.l) c1].toArray 66)):=by
  intro G hG e;obtain⟨_,_,_,_,bG,_,oG,_⟩:=fact G hG;refine⟨⟨a,k,0,_,rfl,(oG.Yi mD _).mono mD,hk,hal,?_⟩,(B2.trans (bG.mono mD)).Zu mD _⟩;rw[if_pos ok];exact⟨rfl,Zlt _ _ (.stop e)⟩
 obtain⟨rt,ra,wf,hlz,_,_,_,swg⟩:=fact g (Zk.refl _ _);by_cases ZV:k<(H l)
 case neg=>
  have Z4:¬(k:Int)<(H l):=mD;have e:Y6 l a k=O:=by unfold Y6;rw[if_neg (fun hn=>ZV hn.1)]
  simp -implicitDefEqProofs only[go_sem,f2,f5,f7,f8,rt,Z4,ra,wf,hlz];exact done g (Zk.refl _ _) e
 have Z4:(k:Int)<(H l):=mD;obtain⟨q',d',hv,hh⟩:=swg.Vn;simp only[Value.slice.injEq,true_and]at hv;obtain⟨rfl,rfl⟩:=hv;obtain⟨bx,ox,rfl,hbx,XH⟩:=hh (by intro e;subst e;simp at ZV);have rx:=XH k ZV;have hx:=Z3 swg.byte k;obtain⟨N,hN⟩:=ZP (WP l k);have hN':N=1+l.getD k 0:=hN;have e1:(1:Int)+((l.getD k 0:Nat):Int)=(N:Int):=mD;have e2:(N:Int)+4=((N+4:Nat):Int):=mD;have d1:¬cw=k:=mD;have n0:(0:Int)<(((H l)-k:Nat):Int):=mD;have n1:(0:Int)<=(k:Int):=mD;have n2:(k:Int)<=((H l):Int):=mD;by_cases hsh:(H l)-k<N+4
 case pos=>
  have ZgP:(((H l)-k:Nat):Int)<((N+4:Nat):Int):=mD;have e:Y6 l a k=O:=by unfold Y6;rw[<-hN,if_neg (fun hn=>by omega)]
  simp -implicitDefEqProofs only[go_sem,f2,f5,f7,f8,rt,Z4,ra,wf,hlz,rx,e1,e2,d1,n0,n1,n2,ZgP,S];exact done g (Zk.refl _ _) e
 have ZgP:¬(((H l)-k:Nat):Int)<((N+4:Nat):Int):=mD;have n3:(0:Int)<=(N:Int):=mD;have n4:(N:Int)<=((cw-k:Nat):Int):=mD;simp -implicitDefEqProofs only[go_sem,f2,f5,f7,f8,rt,Z4,rx,e1,e2,d1,n0,n1,n2,n3,n4,ZgP,S];have sN:Bs g (J (Q ⟨bx,ox+k,O⟩) N (cw-k)) ((l.drop k).take N):=iO swg rfl mD rfl rfl;have Bg:Zk h.size h g:=B2.trans (hg.mono mD);refine (Dl T g _ _ sN (tk.QH Bg)).use ?_;rintro _ g1 ⟨⟨w5,rfl,o5⟩,b5⟩;have e0:Mc ((l.drop k).take N).length=0:=by unfold Mc;rw[aI,an,if_neg mD]
 rw[e0,if_pos rfl]at o5;rw[e0];have ml:=QM ((l.drop k).take N);obtain⟨M,hM⟩:=ZP (TC ((l.drop k).take N));rw[<-hM]at o5 ml;obtain⟨p5,c5,rfl,hc5⟩:=o5.open;have sM:=o5.bs;obtain⟨rt1,ra1,wf1,ZtW,bA1,xA1,oA1,sw1⟩:=fact g1 b5;have s5:=b5.size;have h4:(4:Int)<=(c5:Int):=mD;have n5:((N+4:Nat):Int)<=((cw-k:Nat):Int):=mD;have n6:(N:Int)<=((N+4:Nat):Int):=mD;have n7:(0:Int)<=((N+4:Nat):Int):=mD;have d2:¬cw-k=N:=mD;have hMd:Bs g1 (J p5 4 c5) (M.take 4):=sM.Na mD c5;have hRd:Bs g1 (J (Q ⟨bx,ox+k+N,O⟩) (N+4-N) (cw-k-N)) ((l.drop (k+N)).take 4):=iO sw1 rfl mD mD mD;simp -implicitDefEqProofs only[go_sem,f2,f5,f7,f8];refine VS.z (g1.size) [] (.p 0 (.p 1 (.p 2 (.p 3 (.p 4 (.p 5 (.p 6 (.s 7 (.p 8 .nil))))))))) mixed sV ?_;simp -implicitDefEqProofs only[go_sem,f2,f5,f7,f8,h4,e2,n3,n5,n6,n7,d2,S];refine (Cq T g1 _ _ (M.take 4) ((l.drop (k+N)).take 4) hMd hRd aaa).pure ?_;have eR:(l.drop (k+N)).take 4=(l.drop (k+WP l k)).take 4:=by rw[<-hN]
 by_cases heq:M.take 4=(l.drop (k+N)).take 4
 case neg=>
  have hd:decide (M.take 4=(l.drop (k+N)).take 4)=false:=decide_eq_false heq;have e:Y6 l a k=O:=by
   unfold Y6;rw[<-hN,<-hM,if_neg (fun hn=>heq hn.2.2)]
  rw[hd];simp -implicitDefEqProofs only[go_sem,f2,f5,f7,f8,ra1,wf1,ZtW];exact done g1 b5 e
 have hd:decide (M.take 4=(l.drop (k+N)).take 4)=true:=decide_eq_true heq;rw[hd];obtain⟨bd,gO⟩:=ZP ((l.drop (k+1)).take (N-1));have ZeS:Y6 l a k=(Jx a bd).map fun x=>(x,k+(N+4)):=by
  unfold Y6;rw[<-hN,<-hM,if_pos ⟨ZV,mD,heq⟩,gO]
 have lbd:(H bd)=N-1:=by rw[gO,aI,an];omega
 have sbd:Bs g1 (J (Q ⟨bx,ox+k+1,O⟩) (N-1) (cw-k-1)) bd:=by rw[gO];exact iO sw1 rfl mD mD rfl
 have call:∀G,Zk g1.size g1 G->Zg aF T 49 #[aa #[D t a.p.r,D t a.p.n,J p1 (H a.l) c1],J (Q ⟨bx,ox+k+1,O⟩) (N-1) (cw-k-1)] G fun v' h'=>CX G.size h' v' a bd/\Zk G.size G h':=fun G hG=>
  yo T G a.p p1 c1 a.l _ (N-1) (cw-k-1) bd (oA1.ts.YJ hG) (sbd.YJ hG) lbd mD mD mD
 have n8:(1:Int)<=(N:Int):=mD;have d3:¬cw-k=1:=mD;have q1:A<g1.size:=mD;have Zlv:∀(G:Hp) (b:Nat) (z w:List aX),(H z)=3->(H w)=3->w.all YN=true->G[b]? = Q (K z.toArray 66)->wr G ⟨b,0,O⟩ w=Q (G.setIfInBounds b (K w.toArray 66)):=by
  intro G b z w hz h3 h1 hx;rw[Yh (b:=b) hx 0 w,Yb (by rw[h3,hz]),if_pos ⟨by rw[h3,hz];simp,h1⟩]
 simp -implicitDefEqProofs only[go_sem,f2,f5,f7,f8];refine VS.mono (N:=fun F' g'=>Zk g1.size g1 g'/\F' 2=ak (Q ⟨h.size+1,0,O⟩)/\F' 5=ak (Q ⟨h1.size,0,O⟩)/\F' 7=ak (Q ⟨A,0,O⟩)/\F' 8=D t k/\F' 10=D t N/\F' 14=al (Jx a bd).isSome/\∃(A':Nat) (P:Yg) (p m:_) (c:Nat),g1.size<=A'/\F' 13=ak (Q ⟨A',0,O⟩)/\g'[A']? = Q (K (XC P (J p m c)).toArray 66)/\∀x,Jx a bd=Q x->P=x.p/\Qw g1.size 97 Zv 8 g' (J p m c) x.l) ?_ ?_ (fun _ _ _ h=>h) (fun _ _ h=>h)
 .refine VS.z (g1.size) [] (.q 0 (.p 1 (.p 2 (.p 3 (.or 4 (.p 5 (.p 6 (.p 7 (.s 8 (.s 9 (.p 10 .nil)))))) (.s 8 (.s 4 (.p 5 (.p 6 (.p 7 (.s 9 (.p 10 .nil)))))))))))) mixed sV ?_;simp -implicitDefEqProofs only[go_sem,f2,f5,f7,f8,ra1,q1,n3,n4,n8,d3,S];refine⟨?_,?_⟩
  .refine (call g1 (Zk.refl _ _)).use ?_;rintro _ g2 ⟨⟨P,p2,m2,c2,rfl,h2x⟩,b6⟩;have s6:=b6.size;unfold XC;simp -implicitDefEqProofs only[go_sem,f2,f5,f7,f8,b6];exact⟨_,_,_,_,_,s6,rfl,Zd,fun x hx=>⟨(h2x x hx).1,(h2x x hx).2.push _⟩⟩
  .refine (call (g1.push (K [D t 0,D t 0,J O 0 0].toArray 66)) (Zk.push (R _) _)).use ?_;rintro _ g2 ⟨⟨P,p2,m2,c2,rfl,h2x⟩,b6⟩;have B6:Zk g1.size g1 g2:=(Zk.push (R _) _).trans (b6.mono sW);have xA:=b6.get sW Zd;have yA:=Zlv g2 g1.size _ [D t P.r,D t P.n,J p2 m2 c2] rfl rfl rfl xA;have hz:=Za xA;unfold XC;simp -implicitDefEqProofs only[go_sem,f2,f5,f7,f8,B6,yA,hz];exact⟨_,_,_,_,_,R _,rfl,ZQ xA,fun x hx=>⟨(h2x x hx).1,((h2x x hx).2.Yi (b:=g1.size) sW _).mono sW⟩⟩
 rintro F' g' ⟨hB,f2,f5,f7,f8,f10,f14,A',P,p2,m2,c2,hA',f13,xA',tp⟩;have sB:=hB.size;have hgG:Zk g.size g g':=b5.trans (hB.mono s5);obtain⟨rt2,pS,wf2,ZtX,bA2,xA2,oA2,sw2⟩:=fact g' hgG
 cases sU:Jx a bd with
 | none=>
  have e:Y6 l a k=O:=by rw[ZeS,sU];rfl
  rw[sU]at f14;simp -implicitDefEqProofs only[go_sem,f2,f5,f7,f8,f10,f14,pS,wf2,ZtX];exact done g' hgG e
 | some x=>
  obtain⟨rfl,ox2⟩:=tp x sU;obtain⟨p3,c3,e3,_⟩:=ox2.open;simp only[Value.slice.injEq]at e3;obtain⟨rfl,rfl,rfl⟩:=e3;have e:Y6 l a k=Q (x,k+(N+4)):=by rw[ZeS,sU];rfl
  have rA':rd g' ⟨A',0,O⟩ 3=Q [D t x.p.r,D t x.p.n,J p2 (H x.l) c2]:=ZA xA' rfl;have wA:=Zlv g' A _ [D t x.p.r,D t x.p.n,J p2 (H x.l) c2] rfl rfl rfl xA2;have zA:=Za xA2;have e4:(k:Int)+((N+4:Nat):Int)=((k+(N+4):Nat):Int):=mD;have lx:=CY sU;rw[sU]at f14;simp -implicitDefEqProofs only[go_sem,f2,f5,f7,f8,f10,f13,f14,rA',wA,zA,e2,e4];refine⟨⟨bA2.Zu (R _) _,f2,f5,f7,k+(N+4),x,p2,c2,mD,rfl,ZQ xA2,(ox2.Yi mD _).mono mD,mD,fun r j hr=>Zlt r j (.go e hr)⟩,?_⟩;simp only[vi,Zt,↓reduceIte,f8];omega
def yu(B:Nat)(h':Hp)(v':aX)(l:List Nat)(n:Int):Prop:=∃(r:Qo) (k:Nat) (E:Int) (w:aX),v'=.tuple [aa [w,D t (if E=0 then (if (k:Int)<n then (k:Int) else n) else 0)].toArray,D t E].toArray/\YB B 5 h' w (if E=0 then l.take k else [])/\k<=(H l) /\
 if YT l n then E=0/\Rec l JG 0 r k else E=5/\r=JG/\k=0
theorem pT(h:Hp)(v:aX)(n:Int)(l:List Nat)(s:Bs h v l)(U3:Pj v)(hl:(H l)<=140737488355328)(tk:Tk h):
  Zg aF T 29 #[aa [v,D t n].toArray] h fun v' h'=>yu h.size h' v' l n/\Zk h.size h h':=by
 obtain⟨p,c,rfl,_⟩:=s.open;have U3:(H l)<=c:=U3;refine Zg.LY [_] Tryz.func29 ?_;unfold yu;simp -implicitDefEqProofs only[go_sem];obtain⟨h0,J9⟩:=ZP ((h.push (K [J p (H l) c,D t n].toArray 61)).push (K [J O 0 0,D t 0].toArray 61):Hp);have b0:Zk h.size h h0:=by rw[J9];exact ((Zk.refl _ _).add _).add _
 have s0:h0.size=h.size+2:=by rw[J9];simp
 have t0:h0[h.size]? = Q (K [J p (H l) c,D t n].toArray 61):=by
  rw[J9,W,if_neg sW,Zd]
 have z0:h0[h.size+1]? = Q (K [J O 0 0,D t 0].toArray 61):=by
  rw[J9,W,if_pos sW]
 have e0:(h.push (K #[Value.slice p (H l) c,D t n] 61)).push (K #[Value.slice O 0 0,D t 0] 61)=h0:=J9.symm;have e0':(h.push (K [Value.slice p (H l) c,D t n].toArray 61)).push (K [Value.slice O 0 0,D t 0].toArray 61)=h0:=J9.symm
 first|rw[e0]|rw[e0']
 clear e0 e0' J9;refine (GM T h0 _ n l (s.YJ b0) hl (tk.QH b0)).use ?_;rintro _ h1 ⟨⟨r,k,E,w1,rfl,o1,hk,hr,q⟩,b1⟩;have s1:=b1.size;obtain⟨p1,c1,rfl,_⟩:=o1.open;unfold XC;obtain⟨h2,Tv⟩:=ZP (h1.push (K [D t r.p.r,D t r.p.n,J p1 (H r.l) c1].toArray 66):Hp);have b2:Zk h1.size h1 h2:=by rw[Tv];exact Zk.push (R _) _
 have s2:h2.size=h1.size+1:=by rw[Tv];simp
 have B2:Zk h.size h h2:=b0.trans ((b1.mono mD).trans (b2.mono mD));have t2:=b2.get mD (b1.get mD t0);have z2:=b2.get mD (b1.get mD z0);have y2:=Yh z2 0;have L9:h.size+1<h2.size:=mD;have eh2:h1.push (K #[Value.int t r.p.r,D t r.p.n,J p1 (H r.l) c1] 66)=h2:=Tv.symm;clear Tv;by_cases ok:YT l n
 case neg=>
  have q0:=q;rw[if_neg ok]at q;obtain⟨rfl,rfl,rfl⟩:=q;have z1:=b1.get mD z0;have y1:=Yh z1 0;have Xb:¬h.size+1=h1.size:=mD;have yk:h.size+1<h1.size:=mD;have B1:Zk h.size h h1:=b0.trans (b1.mono mD);simp -implicitDefEqProofs only[go_sem,y1,Xb,yk];refine⟨⟨JG,0,5,J O 0 0,rfl,YB.nil _ _ _,bl _,q0⟩,?_⟩;exact (B1.Zu mD _).Y1 vI _
 have q0:=q;rw[if_pos ok]at q;obtain⟨rfl,q⟩:=q;have l1:=ok.1;have r2:V.hc h2 ⟨h.size,0,O⟩=Q (J p (H l) c):=by rw[Zn t2];rfl
 have n2:V.hc h2 ⟨h.size,1,O⟩=Q (D t n):=by rw[Zn t2];rfl
 have k1:(0:Int)<=(k:Int):=mD;have k2:(k:Int)<=(c:Int):=mD;have q1:h.size<h2.size:=mD;simp -implicitDefEqProofs only[go_sem];rw[eh2];refine VS.z (h2.size) [10,11] (.p 0 (.q 1 (.p 2 (.p 3 (.p 5 (.q 6 (.p 7 (.p 8 (.s 4 (.p 9 (.w 10 (.w 11 .nil)))))))))))) mixed sV ?_;simp -implicitDefEqProofs only[go_sem,r2,n2,k1,k2,q1,S];refine (Gc T h2 _ (l.take k) ((s.YJ B2).Na hk c) aaa).use ?_;rintro w3 h3 ⟨o3,b3⟩;obtain⟨p3,c3,rfl,_⟩:=o3.open;have s3:=b3.size;have z3:=b3.get mD z2;have om:h.size+1<h3.size:=mD;have y3:=Yh z3 0;simp -implicitDefEqProofs only[go_sem,b3,y3,om];refine⟨⟨r,k,0,_,rfl,?_,hk,q0⟩,(B2.trans (b3.mono mD)).Zu mD _⟩;exact (o3.Yi mD _).mono mD
def Jl(rc:List Nat):List Nat:=kQ (WO (rc.getD 0 0)) (rc.drop 1)
def Jd(l:List Nat)(i:Nat):Int:=((XZ l (4*i):Nat):Int)
def iP(PL:List Nat)(now:Int):Int:=Pf ((PL.take 22).getD 0 0:Nat) ((PL.take 22).getD 1 0:Nat) (XZ (PL.take 22) 2:Nat) (Jd (PL.drop 22) 0) (Jd (PL.drop 22) 1) (Jd (PL.drop 22) 2) (Jd (PL.drop 22) 3) (Jd (PL.drop 22) 4) now
def kV(PL:List Nat)(X:Nat)(now:Int):Int:=if Jd (PL.drop 22) 0≠0/\Jd (PL.drop 22) 1≠(X:Nat) then 11 else iP PL now
def aY(PL:List Nat)(X:Nat)(now:Int):Int:=if Qx (PL.drop 22)≠0 then Qx (PL.drop 22) else kV PL X now
def aZ(PL:List Nat)(X:Nat)(now:Int):Int:=if QQ Sr (PL.take 22)≠0 then QQ Sr (PL.take 22) else aY PL X now
def be(PL:List Nat)(X:Nat)(now:Int):Int:=if (H PL)≠42 then 3 else aZ PL X now
def Dp(te:Int)(PL:List Nat)(X:Nat)(now:Int):Int:=if te≠0 then te else be PL X now
def Xg(rc:List Nat)(now:Int):Int:=
 if (H rc)=0 then 13 else if Qm (rc.getD 0 0:Nat)≠0 then Qm (rc.getD 0 0:Nat) else
 Dp (VD (WO (rc.getD 0 0)) 0 0 Ql (rc.drop 1)) (Jl rc) (rc.getD 0 0) now
def bi(rc:List Nat)(now:Int):List aX:=if Xg rc now=0 then UL (Jd ((Jl rc).drop 22) 0) (Jd ((Jl rc).drop 22) 1) (Jd ((Jl rc).drop 22) 2) (Jd ((Jl rc).drop 22) 3) (Jd ((Jl rc).drop 22) 4) else IR
theorem iQ{key l:List Nat}(h:QQ key l=0):CV key l=[D t (l.getD 0 0:Nat),D t (l.getD 1 0:Nat),D t (XZ l 2:Nat)]:=by unfold CV;rw[if_pos h];rfl
theorem pU{key l:List Nat}(h:¬QQ key l=0):CV key l=[D t 0,D t 0,D t 0]:=by unfold CV;rw[if_neg h];rfl
theorem pV{l:List Nat}(h:Qx l=0):Gi l=[D t (Jd l 0),D t (Jd l 1),D t (Jd l 2),D t (Jd l 3),D t (Jd l 4)]:=by unfold Gi;rw[if_pos h];rfl
theorem pW{l:List Nat}(h:¬Qx l=0):Gi l=[D t 0,D t 0,D t 0,D t 0,D t 0]:=by unfold Gi;rw[if_neg h];rfl
theorem UE{rc:List Nat}{now:Int}(h:¬Xg rc now=0):bi rc now=[D t 0,D t 0,D t 0,D t 0,D t 0]:=by unfold bi;rw[if_neg h];rfl
theorem pX{rc:List Nat}{now:Int}(h:Xg rc now=0):bi rc now=[D t (Jd ((Jl rc).drop 22) 0),D t (Jd ((Jl rc).drop 22) 1),D t (Jd ((Jl rc).drop 22) 2),D t (Jd ((Jl rc).drop 22) 3),D t (Jd ((Jl rc).drop 22) 4)]:=by unfold bi;rw[if_pos h];rfl
set_option maxHeartbeats 2000000 in
theorem yv(h:Hp)(v:aX)(rc:List Nat)(now:Int)(s:Bs h v rc)(U3:Pj v)(hrl:(H rc)<=140737488355328)(tk:Tk h)(tn:BE 0 niv Pg h):
  Zg aF T 36 #[v,D t now] h fun v' h'=>v'=.tuple [aa (bi rc now).toArray,D t (Xg rc now)].toArray/\Zk h.size h h':=by
 obtain⟨p,c,rfl,_⟩:=s.open;have Ca:(H rc)<=c:=U3;refine Zg.LY [_,_] Tryz.func36 ?_;simp -implicitDefEqProofs only[go_sem];obtain⟨h0,J9⟩:=ZP (h.push (K [D t 0,D t 0,D t 0,D t 0,D t 0].toArray 49):Hp);have b0:Zk h.size h h0:=by rw[J9];exact (Zk.refl _ _).add _
 have s0:h0.size=h.size+1:=by rw[J9];simp
 have z0:h0[h.size]? = Q (K [D t 0,D t 0,D t 0,D t 0,D t 0].toArray 49):=by rw[J9];exact Zd
 have e0:h.push (K #[Value.int t 0,D t 0,D t 0,D t 0,D t 0] 49)=h0:=J9.symm;have e0':h.push (K [Value.int t 0,D t 0,D t 0,D t 0,D t 0].toArray 49)=h0:=J9.symm
 first|rw[e0]|rw[e0']
 clear e0 e0' J9;have fin:∀(G:Hp) (w:List aX),(H w)=5->w.all YN=true->G[h.size]? = Q (K [D t 0,D t 0,D t 0,D t 0,D t 0].toArray 49)->wr G ⟨h.size,0,O⟩ w=Q (G.setIfInBounds h.size (K w.toArray 49)):=by
  intro G w h3 h1 hx;rw[Yh (b:=h.size) hx 0 w,Yb (by rw[h3];rfl),if_pos ⟨by rw[h3];simp,h1⟩]
 by_cases l0:(H rc)=0
 case pos=>
  have l0':((H rc):Int)=0:=by omega
  have ee:=show Xg rc now=13 by unfold Xg;rw[if_pos l0]
  rw[UE (by rw[ee];exact (by decide)),ee];have yz:=fin h0 [D t 0,D t 0,D t 0,D t 0,D t 0] rfl rfl z0;have hz:=Za z0;simp -implicitDefEqProofs only[go_sem,l0',yz,hz]
  try exact (b0).Zu (R _) _
 have l0':¬((H rc):Int)=0:=by omega
 have n0:(0:Int)<((H rc):Int):=by omega
 have n1:(1:Int)<=((H rc):Int):=by omega
 obtain⟨q',d',hv,hh⟩:=(s.YJ b0).Vn;simp only[Value.slice.injEq,true_and]at hv;obtain⟨rfl,rfl⟩:=hv;obtain⟨bb,oo,rfl,Tu,XH⟩:=hh (by intro e;subst e;simp at l0);have x0:=XH 0 (by omega);rw[bf]at x0;have OM:=Z3 s.byte 0;obtain⟨X,hX⟩:=ZP (rc.getD 0 0);rw[<-hX]at x0 OM;obtain⟨PL,hPL⟩:=ZP (kQ (WO X) (rc.drop 1));obtain⟨te,hte⟩:=ZP (VD (WO X) 0 0 Ql (rc.drop 1));have ePL:Jl rc=PL:=by rw[hPL,hX];rfl
 have E00:Xg rc now=if Qm (X:Nat)≠0 then Qm (X:Nat) else Dp te PL X now:=by
  unfold Xg;rw[if_neg l0,<-hX,<-hte,ePL]
 simp -implicitDefEqProofs only[go_sem,l0',n0,x0];refine (GJ T h0 _ (tk.QH b0)).use ?_;rintro _ h1 ⟨⟨w1,rfl,k1,o1,f1⟩,b1⟩;have B1:=b0.trans (b1.mono b0.size);have s1:=b1.size;have z1:=b1.get (by omega) z0;by_cases ke:Qm (X:Nat)=0
 case neg=>
  generalize Qm (X:Nat)=KE at *;have ee:=show Xg rc now=KE by rw[E00,if_pos ke]
  rw[UE (by rw[ee];exact ke),ee];have yz:=fin h1 [D t 0,D t 0,D t 0,D t 0,D t 0] rfl rfl z1;have hz:=Za z1;simp -implicitDefEqProofs only[go_sem,ke,yz,hz]
  try exact (B1).Zu (R _) _
 have E0:Xg rc now=Dp te PL X now:=by rw[E00,if_neg (fun hn=>hn ke)]
 rw[ke,if_pos rfl,S]at o1;rw[ke];have x7:X<=7:=by unfold Qm at ke;split at ke<;>omega
 obtain⟨p1,c1,rfl,Vx⟩:=o1.open;have lk:=Il X;obtain⟨P1,hP1⟩:=ZP (if c=1 then Q (⟨bb,oo,O⟩:Addr) else Q ⟨bb,oo+1,O⟩);have sD:Bs h1 (J P1 ((H rc)-1) (c-1)) (rc.drop 1):=by
  have sb1:=(s.YJ b0).YJ b1;by_cases hc:c=1
  .have wy:(H rc)=1:=by omega
   have hd:rc.drop 1=[]:=List.drop_eq_nil_of_le (by omega);rw[hd,wy,hc];exact⟨(UK.Ec 0 0 1 h1 P1).sl,fun x hx=>by cases hx⟩
  .rw[hP1,if_neg hc];exact RJ sb1 (k:=1) (by omega) rfl _
 have Zt2:Pj (J P1 ((H rc)-1) (c-1)):=by show (H rc)-1<=c-1;omega
 have htk:Zg aF T 61 #[aa #[J p1 (WO X).length c1,D t 0,D t 0,al false,al false,al false,al false,al false,al false,al false,al false],J P1 ((H rc)-1) (c-1)] h1 fun v' h'=>CS h1.size h' v' (WO X) 0 0 Ql (rc.drop 1)/\Zk h1.size h1 h':=aE T h1 _ _ (WO X) (rc.drop 1) 0 0 Ql rfl o1 sD k1 Zt2;simp -implicitDefEqProofs only[go_sem,n1]
 try rw[<-hP1]
 refine htk.use ?_;rintro _ h2 ⟨⟨cw,w2,rfl,⟨w3,rfl,o3⟩,o2⟩,b2⟩;rw[<-hte]at o2 o3 ⊢;rw[<-hPL]at o2;have B2:=B1.trans (b2.mono B1.size);have s2:=b2.size;have z2:=b2.get (by omega) z1;obtain⟨CC,hCC⟩:=ZP (Yc w3 (if te=0 then 0 else 0) (if te=0 then max 0 (((Sq (rc.drop 1):Nat):Int)+1) else 0) (if te=0 then Ig 0 Ql (Sq (rc.drop 1)) else Ql));obtain⟨p3,c3,rfl,_⟩:=o3.open;have lsn:(if te=0 then Ig 0 Ql (Sq (rc.drop 1)) else Ql).length=8:=by
  split
  .exact Sh _ _
  .rfl
 have tq:(H CC)=11:=by rw[hCC];exact YO _ _ _ _ lsn
 have hCo:CC.all YN=true:=by rw[hCC];exact UA _ _ _
 have hCp:Xd [Value.slice O 0 0,D t 0,D t 0,al false,al false,al false,al false,al false,al false,al false,al false] 0 CC=CC:=Yb (by rw[tq];rfl);have ZgR:(H CC)<=11:=by omega
 rw[<-hCC];obtain⟨h3,kW⟩:=ZP (h2.push (K CC.toArray 111):Hp);have b3:Zk h2.size h2 h3:=by rw[kW];exact Zk.push (R _) _
 have s3:h3.size=h2.size+1:=by rw[kW];simp
 have z3:=b3.get (by omega) z2;have B3:=B2.trans (b3.mono B2.size);have o23:=o2.YJ b3 (R _);obtain⟨p2,c2,rfl,EO⟩:=o2.open;have yz2:=fin h2 [D t 0,D t 0,D t 0,D t 0,D t 0] rfl rfl z2;have ZgO:¬h.size=h2.size:=by omega
 have L9:h.size<h2.size:=by omega
 by_cases te0:te=0
 case neg=>
  have ee:Xg rc now=te:=by rw[E0];unfold Dp;rw[if_pos te0]
  rw[UE (by rw[ee];exact te0),ee];simp -implicitDefEqProofs only[go_sem,tq,hCo,hCp,ZgR,te0,yz2,ZgO,L9]
  try exact (B2.Zu (R _) _).Y1 (by simp;omega) _
 have E1:Xg rc now=be PL X now:=by rw[E0];unfold Dp;rw[if_neg (fun hn=>hn te0)]
 rw[if_pos te0]at o23 EO
 try simp only[if_pos te0]
 by_cases l42:(H PL)=42
 case neg=>
  have ZcQ:¬((H PL):Int)=42:=by omega
  have ee:Xg rc now=3:=by rw[E1];unfold be;rw[if_pos l42]
  rw[UE (by rw[ee];decide),ee];simp -implicitDefEqProofs only[go_sem,tq,hCo,hCp,ZgR,te0,ZcQ,yz2,ZgO,L9]
  try exact (B2.Zu (R _) _).Y1 (by simp;omega) _
 have ZcQ:((H PL):Int)=42:=by omega
 have E2:Xg rc now=aZ PL X now:=by rw[E1];unfold be;rw[if_neg (fun hn=>hn l42)]
 simp -implicitDefEqProofs only[go_sem,tq,hCo,hCp,ZgR,te0,ZcQ];rw[<-kW];clear kW hCC o2 o3 hte;have n22:(22:Int)<=(c2:Int):=by omega
 have sPL:=o23.bs;have sT:Bs h3 (J p2 22 c2) (PL.take 22):=sPL.Na (by omega) c2;have cT:Pj (J p2 22 c2):=by show 22<=c2;omega
 obtain⟨PE,hPE⟩:=ZP (QQ Sr (PL.take 22));obtain⟨tc,tr,tu,hT,Zt7⟩:∃tc tr tu:Int,CV Sr (PL.take 22)=[D t tc,D t tr,D t tu]/\(PE=0->tc=((PL.take 22).getD 0 0:Nat)/\tr=((PL.take 22).getD 1 0:Nat)/\tu=(XZ (PL.take 22) 2:Nat)):=by
  rw[hPE];by_cases q:QQ Sr (PL.take 22)=0
  .exact⟨_,_,_,iQ q,fun _=>⟨rfl,rfl,rfl⟩⟩
  .exact⟨_,_,_,pU q,fun hn=>(q hn).elim⟩
 have tk3:=tk.QH B3
 try simp -implicitDefEqProofs only[go_sem,ZcQ]
 refine VS.mono (N:=fun F' g'=>Zk h3.size h3 g'/\F' 0=J (Q ⟨bb,oo,O⟩) (H rc) c/\F' 1=D t now/\F' 4=ak (Q ⟨h.size,0,O⟩)/\F' 9=J p2 (H PL) c2/\F' 7=D t PE/\∃A,h3.size<=A/\F' 10=ak (Q ⟨A,0,O⟩)/\g'[A]? = Q (K [D t tc,D t tr,D t tu].toArray 82)) ?_ ?_ (fun _ _ _ h=>h) (fun _ _ h=>h)
 .refine VS.z (h3.size) [] (.p 1 (.p 2 (.or 0 (.or 3 (.p 4 (.p 5 (.p 6 (.s 7 (.s 8 (.p 9 .nil)))))) (.s 7 (.s 3 (.p 4 (.p 5 (.p 6 (.s 8 (.p 9 .nil)))))))) (.s 7 (.s 0 (.s 3 (.p 4 (.p 5 (.p 6 (.s 8 (.p 9 .nil))))))))))) mixed (by kernel_rfl) ?_;simp -implicitDefEqProofs only[go_sem,n22];have zt:∀(G:Hp) (k:Nat) (w:List aX),(H w)=3->w.all YN=true->G[k]? = Q (K [D t 0,D t 0,D t 0].toArray 82)->wr G ⟨k,0,O⟩ w=Q (G.setIfInBounds k (K w.toArray 82)):=by
   intro G k w h3 h1 hx;rw[Yh (b:=k) hx 0 w,Yb (by rw[h3];rfl),if_pos ⟨by rw[h3];simp,h1⟩]
  refine⟨?_,?_⟩
  .refine (Kh T h3 tk3).use ?_;rintro w4 h4 ⟨⟨k4,o4⟩,b4⟩;have s4:=b4.size;simp -implicitDefEqProofs only[go_sem,b4,n22];refine⟨?_,?_⟩
   .refine (GG T h4 _ _ Sr (PL.take 22) o4 (sT.YJ b4) cT (tk3.QH b4)).use ?_;rintro _ h5 ⟨rfl,b5⟩;have s5:=b5.size;have yw:Zk h3.size h3 h5:=b4.trans (b5.mono s4);rw[hT,<-hPE];simp -implicitDefEqProofs only[go_sem,yw];exact⟨_,by omega,rfl,Zd⟩
   .have bp:Zk h4.size h4 (h4.push (K [D t 0,D t 0,D t 0].toArray 82)):=Zk.push (R _) _;have bp3:Zk h3.size h3 (h4.push (K [D t 0,D t 0,D t 0].toArray 82)):=b4.trans (bp.mono s4)
    first|refine⟨bp3,?_⟩|skip
    refine (GG T (h4.push (K [D t 0,D t 0,D t 0].toArray 82)) _ _ Sr (PL.take 22) (o4.YJ bp) ((sT.YJ b4).YJ bp) cT ((tk3.QH b4).QH bp)).use ?_;rintro _ h5 ⟨rfl,b5⟩;have s5:=b5.size;have yw:Zk h3.size h3 h5:=bp3.trans (b5.mono (by simp;omega));have xA:=b5.get (by simp) Zd;have yA:=zt h5 h4.size [D t tc,D t tr,D t tu] rfl rfl xA;have hz:=Za xA;rw[hT,<-hPE];simp -implicitDefEqProofs only[go_sem,yw,yA,hz]
    first
     | exact⟨yw.Zu (by omega) _,yw.Zu (by omega) _,_,by omega,rfl,ZQ xA⟩
     | exact⟨yw.Zu (by omega) _,_,by omega,rfl,ZQ xA⟩
     | exact⟨_,by omega,rfl,ZQ xA⟩
  .have bp3:Zk h3.size h3 (h3.push (K [D t 0,D t 0,D t 0].toArray 82)):=Zk.push (R _) _
   first|refine⟨bp3,?_⟩|skip
   refine (Kh T (h3.push (K [D t 0,D t 0,D t 0].toArray 82)) (tk3.QH bp3)).use ?_;rintro w4 h4 ⟨⟨k4,o4⟩,b4⟩;have s4:=b4.size;have dM:Zk h3.size h3 h4:=bp3.trans (b4.mono (by simp));simp -implicitDefEqProofs only[go_sem,dM,n22];refine (GG T h4 _ _ Sr (PL.take 22) o4 (sT.YJ dM) cT (tk3.QH dM)).use ?_;rintro _ h5 ⟨rfl,b5⟩;have s5:=b5.size;have yw:Zk h3.size h3 h5:=dM.trans (b5.mono dM.size);have xA:=b5.get (by simp at s4;omega) (b4.get (by simp) Zd);have yA:=zt h5 h3.size [D t tc,D t tr,D t tu] rfl rfl xA;have hz:=Za xA;rw[hT,<-hPE];simp -implicitDefEqProofs only[go_sem,yw,yA,hz]
   first
    | exact⟨yw.Zu (by omega) _,yw.Zu (by omega) _,_,by omega,rfl,ZQ xA⟩
    | exact⟨yw.Zu (by omega) _,_,by omega,rfl,ZQ xA⟩
    | exact⟨_,by omega,rfl,ZQ xA⟩
 rintro F h6 ⟨b6,f0,f1,f4,f9,f7,A,hA3,f10,t6⟩;have hA6:=Za t6;have z6:=b6.get (by omega) z3;have B6:=B3.trans (b6.mono B3.size);by_cases pe:PE=0
 case neg=>
  have ee:=show Xg rc now=PE by rw[E2];unfold aZ;rw[<-hPE,if_pos pe]
  rw[UE (by rw[ee];exact pe),ee];have yz:=fin h6 [D t 0,D t 0,D t 0,D t 0,D t 0] rfl rfl z6;have hz:=Za z6;simp -implicitDefEqProofs only[go_sem,f0,f1,f4,f9,f7,f10,pe,yz,hz]
  try exact (B6).Zu (R _) _
 have E3:Xg rc now=aY PL X now:=by rw[E2];unfold aZ;rw[<-hPE,if_neg (fun hn=>hn pe)]
 obtain⟨rfl,rfl,rfl⟩:=Zt7 pe;have n42:(22:Int)<=((H PL):Int):=by omega
 obtain⟨q2,d2,xN,Tv⟩:=sPL.Vn;simp only[Value.slice.injEq,true_and]at xN;obtain⟨rfl,rfl⟩:=xN;obtain⟨b22,o22,rfl,_,_⟩:=Tv (by intro e;rw[e]at l42;cases l42);have d22:¬c2=22:=by omega
 have sB:=RJ (sPL.YJ b6) (k:=22) (by omega) rfl (c2-22);simp -implicitDefEqProofs only[go_sem,f0,f1,f4,f9,f7,f10,pe,n42,d22];refine (EY T h6 _ (PL.drop 22) sB (by rw[an];omega)).use ?_;rintro _ h7 ⟨rfl,b7⟩;have s7:=b7.size;have z7:=b7.get (by omega) z6;have t7:=b7.get hA6 t6;have B7:=B6.trans (b7.mono B6.size);obtain⟨DE,hDE⟩:=ZP (Qx (PL.drop 22));have Xb:¬h.size=h7.size:=by omega
 have GC:h.size<h7.size:=by omega
 by_cases de:DE=0
 case neg=>
  have ee:Xg rc now=DE:=by rw[E3];unfold aY;rw[<-hDE,if_pos de]
  rw[UE (by rw[ee];exact de),ee,pW (by rw[<-hDE];exact de),<-hDE];have yz:=fin h7 [D t 0,D t 0,D t 0,D t 0,D t 0] rfl rfl z7;simp -implicitDefEqProofs only[go_sem,f0,f1,f4,f9,f7,f10,de,yz,Xb,GC]
  try exact (B7.Zu (R _) _).Y1 (by simp;omega) _
 have E4:Xg rc now=kV PL X now:=by rw[E3];unfold aY;rw[<-hDE,if_neg (fun hn=>hn de)]
 rw[pV (by rw[<-hDE];exact de),<-hDE,de];have eA:iP PL now=Pf ((PL.take 22).getD 0 0:Nat) ((PL.take 22).getD 1 0:Nat) (XZ (PL.take 22) 2:Nat) (Jd (PL.drop 22) 0) (Jd (PL.drop 22) 1) (Jd (PL.drop 22) 2) (Jd (PL.drop 22) 3) (Jd (PL.drop 22) 4) now:=rfl;have eC:Xg rc now=0->bi rc now=[D t (Jd (PL.drop 22) 0),D t (Jd (PL.drop 22) 1),D t (Jd (PL.drop 22) 2),D t (Jd (PL.drop 22) 3),D t (Jd (PL.drop 22) 4)]:=fun e=>by rw[pX e,ePL]
 have e4:kV PL X now=if Jd (PL.drop 22) 0≠0/\Jd (PL.drop 22) 1≠(X:Nat) then 11 else iP PL now:=rfl
 generalize Jd (PL.drop 22) 0=y0 at *;generalize Jd (PL.drop 22) 1=y1 at *;generalize Jd (PL.drop 22) 2=y2 at *;generalize Jd (PL.drop 22) 3=y3 at *;generalize Jd (PL.drop 22) 4=y4 at *;obtain⟨h8,hh8⟩:=ZP (h7.push (K [D t y0,D t y1,D t y2,D t y3,D t y4].toArray 49):Hp);have e8:h7.push (K #[Value.int t y0,D t y1,D t y2,D t y3,D t y4] 49)=h8:=hh8.symm
 try simp -implicitDefEqProofs only[go_sem,f0,f1,f4,f9,f7,f10,de]
 rw[e8];have b8:Zk h7.size h7 h8:=by rw[hh8];exact Zk.push (R _) _
 have s8:h8.size=h7.size+1:=by rw[hh8];simp
 have c8:h8[h7.size]? = Q (K [D t y0,D t y1,D t y2,D t y3,D t y4].toArray 49):=by rw[hh8];exact Zd
 clear e8 hh8;have z8:=b8.get (by omega) z7;have t8:=b8.get (by omega) t7;have B8:=B7.trans (b8.mono B7.size);have k80:V.hc h8 ⟨h7.size,0,O⟩=Q (D t y0):=by rw[Zn c8];rfl
 have k81:V.hc h8 ⟨h7.size,1,O⟩=Q (D t y1):=by rw[Zn c8];rfl
 have rT8:rd h8 ⟨A,0,O⟩ 3=_:=ZA t8 rfl;have rC8:rd h8 ⟨h7.size,0,O⟩ 5=_:=ZA c8 rfl;have b18:Zk h1.size h1 h8:=(b2.trans ((b3.mono s2).trans ((b6.mono (by omega)).trans ((b7.mono (by omega)).trans (b8.mono (by omega))))))
 have x8:V.hc h8 ⟨bb,oo,O⟩=Q (D .u8 (X:Nat)):=by
  rw[b18.hc (by show bb<h1.size;omega),b1.hc (by exact Tu)];exact x0
 have yz8:=fin h8 [D t 0,D t 0,D t 0,D t 0,D t 0] rfl rfl z8;have yc8:=fin h8 [D t y0,D t y1,D t y2,D t y3,D t y4] rfl rfl z8;have hz8:=Za z8;refine VS.mono (N:=fun F' g'=>g'=h8/\F' 0=J (Q ⟨bb,oo,O⟩) (H rc) c/\F' 1=D t now/\F' 4=ak (Q ⟨h.size,0,O⟩)/\F' 10=ak (Q ⟨A,0,O⟩)/\F' 11=ak (Q ⟨h7.size,0,O⟩)/\F' 78=al (decide (y0≠0/\y1≠(X:Nat)))) ?_ ?_ (fun _ _ _ h=>h) (fun _ _ h=>h)
 .refine VS.q mixed (by kernel_rfl) ?_;by_cases w0:y0=0
  .have hd:decide (y0≠0/\y1≠(X:Nat))=false:=decide_eq_false (fun hn=>hn.1 w0);rw[hd];simp -implicitDefEqProofs only[go_sem,f0,f1,f4,f9,f7,f10,k80,w0]
  .by_cases w1:y1=(X:Nat)
   .have hd:decide (y0≠0/\y1≠(X:Nat))=false:=decide_eq_false (fun hn=>hn.2 w1);rw[hd];simp -implicitDefEqProofs only[go_sem,f0,f1,f4,f9,f7,f10,k80,k81,x8,n0,w0,w1]
   .have hd:decide (y0≠0/\y1≠(X:Nat))=true:=decide_eq_true ⟨w0,w1⟩;rw[hd];simp -implicitDefEqProofs only[go_sem,f0,f1,f4,f9,f7,f10,k80,k81,x8,n0,w0,w1]
 rintro F' g8 ⟨Ev,g0,g1,g4,gt,gc,gb⟩;rw[Ev];clear Ev;by_cases wr':y0≠0/\y1≠(X:Nat)
 case pos=>
  have ee:Xg rc now=11:=by rw[E4,e4,if_pos wr']
  rw[decide_eq_true wr']at gb;rw[UE (by rw[ee];decide),ee];simp -implicitDefEqProofs only[go_sem,g4,gb,yz8,hz8]
  try exact B8.Zu (R _) _
 have E5:Xg rc now=iP PL now:=by rw[E4,e4,if_neg wr']
 rw[decide_eq_false wr']at gb;have hal:Zg aF T 64 #[aa #[D t ((PL.take 22).getD 0 0:Nat),D t ((PL.take 22).getD 1 0:Nat),D t (XZ (PL.take 22) 2:Nat)],aa #[D t y0,D t y1,D t y2,D t y3,D t y4],D t now] h8 fun v' h'=>v'=D t (iP PL now)/\Zk h8.size h8 h':=by
  rw[eA];exact pB T h8 _ _ _ y0 y1 y2 y3 y4 now (tn.QH B8)
 simp -implicitDefEqProofs only[go_sem,g0,g1,g4,gt,gc,gb,rT8,rC8];refine hal.use ?_;rintro _ h9 ⟨rfl,b9⟩;have s9:=b9.size;have z9:=b9.get (by omega) z8;have c9:=b9.get (by omega) c8;have rC9:rd h9 ⟨h7.size,0,O⟩ 5=_:=ZA c9 rfl;have B9:=B8.trans (b9.mono B8.size);have yz9:=fin h9 [D t 0,D t 0,D t 0,D t 0,D t 0] rfl rfl z9;have yc9:=fin h9 [D t y0,D t y1,D t y2,D t y3,D t y4] rfl rfl z9;have hz9:=Za z9;generalize iP PL now=OA at *;by_cases oa:OA=0
 .have ee:Xg rc now=0:=by rw[E5,oa]
  rw[eC ee,ee];simp -implicitDefEqProofs only[go_sem,g4,gc,oa,rC9,yc9,hz9]
  try exact B9.Zu (R _) _
 .rw[UE (by rw[E5];exact oa),E5];simp -implicitDefEqProofs only[go_sem,g4,gc,oa,yz9,hz9]
  try exact B9.Zu (R _) _
end Go.Proofs.YtnhfdnlcpdbjlaaGreatDoor
