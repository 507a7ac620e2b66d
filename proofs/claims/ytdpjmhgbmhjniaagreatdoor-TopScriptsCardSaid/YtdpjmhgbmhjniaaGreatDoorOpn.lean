/- Part Opn. -/
import Derived.Test.YtdpjmhgbmhjniaaGreatDoorPik
import Derived.Test.YtdpjmhgbmhjniaaGreatDoorW21
import Derived.Test.YtdpjmhgbmhjniaaGreatDoorChw
import Derived.Test.YtdpjmhgbmhjniaaGreatDoorTape
import Derived.Test.YtdpjmhgbmhjniaaGreatDoorVst
import Derived.Test.YtdpjmhgbmhjniaaGreatDoorTakf
import Derived.Test.YtdpjmhgbmhjniaaGreatDoorPak
import Derived.Test.YtdpjmhgbmhjniaaGreatDoorTab
open Go.Value renaming int→D,slice→J,agg→aa,pointer→al,bool→am
open Go.IntKind renaming i64→t
open Go.Obj renaming cells→K
open Go.Proofs.Tryz renaming prog→az,underlying39→a6,underlying117→ba
open List renaming length→H,length_append→U,append_assoc→ao,length_drop→av,length_cons→aw,take_append_drop→ay,length_take→aI,length_nil→a7,drop_eq_getElem_cons→a8,getD_eq_getElem?_getD→bc,not_mem_nil→be,append_nil→bh,nil_append→bk,length_singleton→bo,mem_cons→bz,getElem_mem→bD,take_left'→bE,length_set→bH
open Nat renaming le_refl→R,zero_add→a5,add_zero→bf,zero_le→bw,reduceEqDiff→bA
open Int renaming toNat_natCast→S
open Option renaming none→O,some→Q
open Array renaming getElem?_push→W
open Go.Builtin renaming zeroCells→a9
open Go renaming Value→a4
namespace Go.Proofs.YtdpjmhgbmhjniaaGreatDoor
open Go Go.V
set_option linter.all false
set_option maxRecDepth 100000
variable(T:World)
theorem Fj(h:Hp)(x y:Vt):Zc az T 170 #[aa (Zn x).toArray,aa (Zn y).toArray] h fun v' h'=>v'=D t (Pf x.ZA y.ZA)/\Zf h.size h h':=by
 refine Zc.Y8 [_,_] Tryz.func170 ?_;unfold Zn;simp -implicitDefEqProofs only[go_sem];refine (VH T _ _ _).pure ?_;simp -implicitDefEqProofs only[go_sem]
 (repeat' (first|exact Zf.refl _ _|assumption|refine Zf.add ?_ _|refine Zf.Zj ?_ aaa _|refine Zf.trans aab ?_))
def Found(l:List Vt)(s:Int)(i:Nat)(b:Bool):Prop:=(b=true/\∃hi:i<(H l),l[i].ZA=s)\/(b=false/\(∀j (hj:j<(H l)),j<i->l[j].ZA<s)/\∀j (hj:j<(H l)),i<=j->s<l[j].ZA)
theorem Ba(a b:Int):Pf a b<0↔a<b:=by unfold Pf;split<;>(try split)<;>omega
theorem Fk(a b:Int):Pf a b=0↔a=b:=by unfold Pf;split<;>(try split)<;>omega
theorem rq{x:Nat}:Xw .u64 (x:Int) 1=((x/2:Nat):Int):=by
 rw[show (1:Int)=((1:Nat):Int) from rfl,RB .u64 x 1 MZ,Nat.shiftRight_eq_div_pow]
theorem cU(h:Hp)(u:a4)(l:List Vt)(v:Vt)(s:Ts Zn 8 h u l)(hs:Srt l)(hl:(H l)<=2199023255552):
  Zc az T 169 #[u,aa (Zn v).toArray,.func (.func 170) #[] #[]] h fun v' h'=>(∃(i:Nat) (b:Bool),i<=(H l)/\v'=.tuple [D t i,am b].toArray/\Found l v.ZA i b)/\Zf h.size h h':=by
 obtain⟨p,c,rfl,YR⟩:=Uw s;refine Zc.Y8 [_,_,_] Tryz.func169 ?_;unfold Zn;simp -implicitDefEqProofs only[go_sem];refine VS.Z9 (fun F g=>Zf h.size h g/\g[h.size]? = Q (K (Zn v).toArray 168)/\F 0=J p (H l) c/\F 2=.func (.func 170) #[] #[]/\F 4=al (Q ⟨h.size,0,O⟩)/\F 8=D t (H l)/\∃i j:Nat,i<=j/\j<=(H l)/\F 9=D t i/\F 10=D t j/\(∀k (hk:k<(H l)),k<i->l[k].ZA<v.ZA)/\(∀k (hk:k<(H l)),j<=k->v.ZA<=l[k].ZA))
  (fun F _=>(vi (F 10)).toNat-(vi (F 9)).toNat) rfl ⟨(Zf.refl _ _).add _,Zb,rfl,rfl,rfl,rfl,0,(H l),gX,gX,rfl,rfl,fun k _ hk=>by omega,fun k hk PV=>by omega⟩ ?_
 rintro F g ⟨hg,hx,f0,f2,f4,f8,i,j,HI,hj,f9,f10,lo,hi⟩;have Pd:=hg.size;have hz:=Za hx;have rx:rd g ⟨h.size,0,O⟩ 8=Q (Zn v):=Zs hx rfl;unfold Zn at rx;by_cases ZL:i<j
 .have ZW:(i:Int)<j:=gX;have e1:(i:Int)+(j:Int)=((i+j:Nat):Int):=gX;have e2:((i+j:Nat):Int)%18446744073709551616=((i+j:Nat):Int):=gX;have e3:=rq (x:=i+j);obtain⟨m,hm⟩:=ZD ((i+j)/2);rw[<-hm]at e3;have fX:m<(H l):=gX;have Zqw:(m:Int)<(H l):=gX;obtain⟨bb,oo,rfl,U9,_,YR⟩:=YR (by intro e;rw[e]at fX;simp at fX);have rm:rd g ⟨bb,oo+m*8,O⟩ 8=Q (Zn l[m]):=by rw[JW hg (by exact U9)];exact YR m fX
  obtain⟨y,hy⟩:=ZD (l[m]);rw[<-hy]at rm;unfold Zn at rm;simp -implicitDefEqProofs only[go_sem,f9,f10,ZW,e1,e2,e3];refine VS.w (g.size) [] (.q 0 (.q 1 (.q 2 (.q 3 (.q 4 (.q 5 (.s 6 (.q 7 .nil)))))))) mixed po ?_;have q1:bb<g.size:=gX;simp -implicitDefEqProofs only[go_sem,f0,f2,f4,Zqw,rm,rx,hz,q1];refine (Fj T g y v).use ?_;rintro _ g1 ⟨rfl,b1⟩;have WB:=hg.trans (b1.mono Pd);have QH:=b1.get hz hx;by_cases q:y.ZA<v.ZA
  .have q':=(Ba _ _).2 q;simp -implicitDefEqProofs only[go_sem,q',f0,f2,f4,f8,f9,f10];refine⟨b1,⟨WB,QH,f0,f2,f4,f8,m+1,j,gX,hj,rfl,f10,fun k hk hkm=>?_,hi⟩,?_⟩
   .by_cases e:k=m
    .subst e;rw[<-hy];exact q
    .have:=hs k m hk fX gX;rw[<-hy]at this;omega
   .simp only[vi,Zk,↓reduceIte,bA,f9,f10];omega
  .have q':¬Pf y.ZA v.ZA<0:=fun h=>q ((Ba _ _).1 h);simp -implicitDefEqProofs only[go_sem,q',f0,f2,f4,f8,f9,f10];refine⟨b1,⟨WB,QH,f0,f2,f4,f8,i,m,gX,gX,f9,rfl,lo,fun k hk hkm=>?_⟩,?_⟩
   .by_cases e:k=m
    .subst e;rw[<-hy];omega
    .have:=hs m k fX hk gX;rw[<-hy]at this;omega
   .simp only[vi,Zk,↓reduceIte,bA,f9,f10];omega
 .have ZW:¬(i:Int)<j:=gX;obtain rfl:i=j:=gX;by_cases Bb:i<(H l)
  .have ru:(i:Int)<(H l):=gX;obtain⟨bb,oo,rfl,U9,_,YR⟩:=YR (by intro e;rw[e]at Bb;simp at Bb);have rm:rd g ⟨bb,oo+i*8,O⟩ 8=Q (Zn l[i]):=by rw[JW hg (by exact U9)];exact YR i Bb
   have YU:=hi i Bb (R _);obtain⟨y,hy⟩:=ZD (l[i]);rw[<-hy]at rm YU;unfold Zn at rm;simp -implicitDefEqProofs only[go_sem,f9,f10,ZW];refine VS.w (g.size) [] (.q 0 (.q 1 (.q 2 (.q 3 (.q 4 (.q 5 (.q 6 (.q 7 (.q 8 (.q 9 (.q 10 (.s 11 (.q 12 (.q 13 (.q 14 (.q 15 .nil)))))))))))))))) mixed po ?_;have q1:bb<g.size:=gX;simp -implicitDefEqProofs only[go_sem,f0,f2,f4,f8,f9,f10,ru,rm,rx,hz,q1];refine (Fj T g y v).use ?_;rintro _ g1 ⟨rfl,b1⟩;have WB:=hg.trans (b1.mono Pd);by_cases q:y.ZA=v.ZA
   .have q':=(Fk _ _).2 q;simp -implicitDefEqProofs only[go_sem,q'];exact⟨b1,⟨i,true,gX,rfl,.inl ⟨rfl,Bb,by rw[<-hy];exact q⟩⟩,WB⟩
   .have q':¬Pf y.ZA v.ZA=0:=fun h=>q ((Fk _ _).1 h);simp -implicitDefEqProofs only[go_sem,q'];refine⟨b1,⟨i,false,gX,rfl,.inr ⟨rfl,fun k hk hkm=>lo k hk hkm,fun k hk hkm=>?_⟩⟩,WB⟩;by_cases e:k=i
    .subst e;rw[<-hy];omega
    .have:=hs i k Bb hk gX;rw[<-hy]at this;omega
  .have ru:¬(i:Int)<(H l):=gX;simp -implicitDefEqProofs only[go_sem,f9,f10,ZW];refine VS.w (g.size) [] (.q 0 (.q 1 (.q 2 (.q 3 (.q 4 (.q 5 (.q 6 (.q 7 (.q 8 (.q 9 (.q 10 (.s 11 (.q 12 (.q 13 (.q 14 (.q 15 .nil)))))))))))))))) mixed po ?_;simp -implicitDefEqProofs only[go_sem,f0,f2,f4,f8,f9,f10,ru];exact⟨⟨i,false,gX,rfl,.inr ⟨rfl,fun k hk hkm=>lo k hk hkm,fun k hk hkm=>by omega⟩⟩,hg⟩
theorem X3(l:List Vt):(ZK Zn l).length=(H l)*8:=Jn (n:=8) (fun _=>rfl) l
theorem Bc(l:List Vt):(ZK Zn l).all Yq=true:=by
 induction l with
 | nil=>rfl
 | cons x l ih=>rw[ZK,List.all_append,ih];rfl
theorem zeroV(k:Nat):(a9 (rep 8 [Value.int t 0]).toArray k).toList.length=k*8:=by rw[Array.length_toList,YL];rfl
theorem j5(k:Nat):(a9 (rep 8 [Value.int t 0]).toArray k).toList.all Yq=true:=by
 unfold a9;rw[List.all_eq_true];intro x hx;simp only[Array.toList_map,Array.toList_range,List.mem_map]at hx;obtain⟨j,_,rfl⟩:=hx;have:j%8<8:=Nat.mod_lt _ MZ;show Yq ((rep 8 [Value.int t 0]).toArray[j%8]!)=true;rcases (by omega:j%8=0\/j%8=1\/j%8=2\/j%8=3\/j%8=4\/j%8=5\/j%8=6\/j%8=7) with e|e|e|e|e|e|e|e<;>rw[e]<;>rfl
theorem IU:Extern.findNext Tryz.f198=O/\Extern.find Tryz.f198=Q (Extern.SlicesOverlaps.overlaps #[117,117] #[4]):=⟨po,po⟩
theorem j6(h:Hp)(B:Nat)(p:Option Addr)(cap i:Nat)(l:List Vt)(x:Vt)(bv:Nat)(Zy:JD B 168 Zn 8 h (.slice p l.length cap) l)(hB:B<=h.size)(hi:i<=l.length)(hl:l.length<=1000000)(hx:h[bv]? = Q (.cells (Zn x).toArray 168))(Ys:cap≠0->∀b o,p=Q ⟨b,o,O⟩->b≠bv):
  Zc az T 172 #[.slice p l.length cap,.int .i64 i,.slice (Q ⟨bv,0,O⟩) 1 1] h fun v' h'=>JD B 168 Zn 8 h' v' (l.take i++x :: l.drop i)/\Zf B h h':=by
 refine Zc.Y8 [_,_,_] Tryz.func172 ?_;have uO:l.length<=cap:=by
  obtain⟨_,_,e,h⟩:=Zy.open;simp only[Value.slice.injEq]at e;omega
 have n1:(0:Int)<=(i:Int):=by omega
 have n2:(i:Int)<=(l.length:Int):=by omega
 have sx:Ts Zn 8 h (.slice (Q ⟨bv,0,O⟩) 1 1) [x]:=⟨by
  have:=Wo (pre:=[]) (cs:=Zn x) (post:=[]) (m:=1) (n:=8) (c:=1) (by rw[bh,bk];exact hx) rfl rfl
  simpa [ZK] using this⟩
 by_cases hin:i=l.length
 .subst hin;have k1:((1:Nat):Int)=1:=rfl;by_cases c0:cap=0
  .obtain rfl:l=[]:=List.eq_nil_of_length_eq_zero (by omega);subst c0;rw[a7]at Zy ⊢;have k0:((0:Nat):Int)=0:=rfl;simp -implicitDefEqProofs only[go_sem,k0,k1];refine RD (E:=168) (B:=B) (n:=8) (bytes:=64) SM ba OY fu rfl fq (fun _=>rfl) Zy hB sx (by simp only[bo,a7];omega) (by omega) ?_;intro v' h' ho hb _;simp -implicitDefEqProofs only[go_sem];exact⟨ho,hb⟩
  .obtain⟨b,Zx,OJ,rfl,hg,_,TM,_⟩:=Zy.Zy.Zx c0;have hz:(l.length:Int)<=(l.length:Int):=Int.le_refl _;simp -implicitDefEqProofs only[go_sem,n1,n2,k1,S];refine RD (E:=168) (B:=B) (n:=8) (bytes:=64) SM ba OY fu rfl fq (fun _=>rfl) Zy hB sx (by simp only[bo];omega) (by omega) ?_;intro v' h' ho hb _;simp -implicitDefEqProofs only[go_sem];rw[List.take_length,List.drop_length];exact⟨ho,hb⟩
 have Bb:i<l.length:=by omega
 have Av:¬(i:Int)=(l.length:Int):=by omega
 have c0:cap≠0:=by omega
 obtain⟨b,Zx,OJ,rfl,hg,_,TM,_⟩:=Zy.Zy.Zx c0;have hbv:b≠bv:=Ys c0 b 0 rfl;have et:l=l.take i++(l[i] :: l.drop (i+1)):=by
  conv=>lhs;rw[<-ay i l,a8 Bb]
 have ed:ZK Zn (l.drop i)=Zn l[i]++ZK Zn (l.drop (i+1)):=by
  rw[a8 Bb];rfl
 have ee:ZK Zn l=ZK Zn (l.take i)++ZK Zn (l.drop i):=by rw[<-YD,ay]
 have lt:(ZK Zn (l.take i)).length=i*8:=by rw[X3,aI];congr 1;omega
 have ld:(ZK Zn (l.drop i)).length=(l.length-i)*8:=by rw[X3,av]
 have Zih:ZK Zn (l.take i++x :: l.drop i)=ZK Zn (l.take i)++(Zn x++ZK Zn (l.drop i)):=by rw[YD];rfl
 have yL:(l.take i++x :: l.drop i).length=l.length+1:=by rw[U,aI,aw,av];omega
 have c1:¬cap=i:=by omega
 have m1:(l.length:Int)+1=((l.length+1:Nat):Int):=by omega
 have m2:((l.length+1:Nat):Int)-(i:Int)=((l.length+1-i:Nat):Int):=by omega
 have m3:(i:Int)+1=((i+1:Nat):Int):=by omega
 have k1:((1:Nat):Int)=1:=rfl;by_cases QQ:cap<l.length+1
 .have Bd:(cap:Int)<((l.length+1:Nat):Int):=by omega
  have n3:(i:Int)<=(cap:Int):=by omega
  simp -implicitDefEqProofs only[go_sem,n1,n2,n3,k1,Av,m1,Bd,m2,S];have yM:Own B 168 8 h (.slice (Q ⟨b,0,O⟩) i cap) i (ZK Zn (l.take i)):=by
   have:=Zy.Zy.Pb hi;rw[ee,bE lt]at this;exact this
  refine Ee (E:=168) (B:=B) (n:=8) (m:=i) (k:=l.length+1-i) (bytes:=64) (zs:=rep 8 [Value.int .i64 0]) SM Tryz.underlying3 OY fu rfl (by decide) fq yM hB (j5 _) (by omega) (by omega) ?_;intro w g ow _ cV;obtain⟨hbg,c2,rfl⟩:=cV _ _ rfl (by omega);obtain⟨Z,hZ⟩:=ZD ((a9 (rep 8 [Value.int .i64 0]).toArray (l.length+1-i)).toList);have lZ:=zeroV (l.length+1-i);rw[<-hZ]at ow lZ;have ec:i+(l.length+1-i)=l.length+1:=by omega
  rw[ec]at ow ⊢;rcases ow with⟨_,h0,_⟩|⟨b2,ZC5,sp2,_,qN,JK,_,hs2,MR⟩
  .omega
  simp only[Value.slice.injEq,Option.some.injEq,Addr.mk.injEq,true_and,and_true]at qN;obtain⟨rfl,rfl⟩:=qN;have d1:¬c2=i:=by omega
  have d2:(i:Int)<=((l.length+1:Nat):Int):=by omega
  have mP:=Za hg;have rD:=Za hx;have fV:g[b]? = _:=hbg.get mP hg;have hgv:g[bv]? = _:=hbg.get rD hx;have sx1:Sl 8 g (.slice (Q ⟨bv,0,O⟩) 1 1) 1 (Zn x):=Wo (pre:=[]) (post:=[]) (by rw[bh,bk];exact hgv) rfl rfl;have rE:min 1 (l.length+1-i)=1:=by omega
  have eZ:ZK Zn (l.take i)++Z++sp2=ZK Zn (l.take i)++(Z.take 8++(Z.drop 8++sp2)):=by rw[ao,<-ao (Z.take 8),ay]
  have lz8:(Z.take 8).length=8:=by rw[aI];omega
  have ldz:(Z.drop 8).length=(l.length-i)*8:=by rw[av];omega
  have ec1:YJ (ZK Zn (l.take i)++Z++sp2) (i*8) ((Zn x).take (1*8))=(ZK Zn (l.take i)++Zn x)++(Z.drop 8++sp2):=by
   rw[show (Zn x).take (1*8)=Zn x from rfl,eZ,Vg lt.symm (by rw[lz8];rfl),ao]
  simp -implicitDefEqProofs only[go_sem,n1,d1,d2,S,a5];refine Ma (E:=168) (n:=8) SM OY JK sx1 rfl ?_ ?_
  .rw[rE,U,U,lt,lZ];omega
  rw[rE,ec1];obtain⟨g2,IV⟩:=ZD (g.setIfInBounds h.size (.cells ((ZK Zn (l.take i)++Zn x)++(Z.drop 8++sp2)).toArray 168):Hp);rw[<-IV];have g2n:g2[h.size]? = Q (.cells ((ZK Zn (l.take i)++Zn x)++(Z.drop 8++sp2)).toArray 168):=by rw[IV];exact ZE JK
  have g2b:g2[b]? = Q (.cells (ZK Zn (l.take i)++(ZK Zn (l.drop i)++Zx)).toArray 168):=by rw[IV,Zq (by omega),fV,ee,ao]
  have bg2:Zf h.size h g2:=by rw[IV];exact hbg.Zj (R _) _
  clear IV;have m4:(i:Int)+1=((i+1:Nat):Int):=by omega
  have d3:¬c2=i+1:=by omega
  have d4:((i+1:Nat):Int)<=((l.length+1:Nat):Int):=by omega
  have d5:(0:Int)<=((i+1:Nat):Int):=by omega
  simp -implicitDefEqProofs only[go_sem];refine VS.w (h.size) [8] (.q 0 (.q 1 (.q 2 (.q 3 (.q 4 (.q 5 (.q 6 (.q 7 (.w 8 .nil))))))))) mixed (by kernel_rfl) ?_;simp -implicitDefEqProofs only[go_sem,n1,n2,m4,k1,d3,d4,d5,c1,S,a5];have ss:Sl 8 g2 (.slice (Q ⟨b,i*8,O⟩) (l.length-i) (cap-i)) (l.length-i) (ZK Zn (l.drop i)):=Wo g2b ld lt.symm;have min2:min (l.length-i) (l.length+1-(i+1))=l.length-i:=by omega
  have etk:(ZK Zn (l.drop i)).take ((l.length-i)*8)=ZK Zn (l.drop i):=List.take_of_length_le (by omega);have ec2:YJ ((ZK Zn (l.take i)++Zn x)++(Z.drop 8++sp2)) ((i+1)*8) ((ZK Zn (l.drop i)).take ((l.length-i)*8))=ZK Zn (l.take i++x :: l.drop i)++sp2:=by
   rw[etk,Vg (by rw[U,lt];show (i+1)*8=i*8+8;omega) (by rw[ld,ldz]),Zih];simp only[ao]
  refine Ma (E:=168) (n:=8) SM OY g2n ss (Bc _) ?_ ?_
  .rw[min2,U,U,U,lt,ldz];show _<=i*8+8+_;omega
  rw[min2,ec2];simp -implicitDefEqProofs only[go_sem];refine⟨⟨?_⟩,(bg2.Zj (R _) _).mono hB⟩;rw[yL];exact Own.aJ hB (ZE g2n) (by rw[X3,yL]) hs2 MR
 .have Bd:¬(cap:Int)<((l.length+1:Nat):Int):=by omega
  have Zij:((l.length+1:Nat):Int)<=(cap:Int):=by omega
  have n4:(0:Int)<=((l.length+1:Nat):Int):=by omega
  have m4:(i:Int)+1=((i+1:Nat):Int):=by omega
  have d4:((i+1:Nat):Int)<=((l.length+1:Nat):Int):=by omega
  have d5:(0:Int)<=((i+1:Nat):Int):=by omega
  have d3:¬cap=i+1:=by omega
  simp -implicitDefEqProofs only[go_sem,n1,n2,n4,k1,c1,Av,m1,Bd,Zij,m4,d3,d4,d5,S,a5];have gB:h[b]? = Q (.cells (ZK Zn l++Zx).toArray 168 (0,0)):=hg;have gA:h[bv]? = Q (.cells (Zn x).toArray 168 (0,0)):=hx;have lsp:8<=Zx.length:=by
   rw[TM];have:=Nat.mul_le_mul_right 8 (show 1<=cap-l.length by omega);omega
  refine OV Tryz.func198 (by decide) rfl IU.1 IU.2 ?_;refine Ed (size:=8) ba OY (fun e=>hbv e.symm) gA gB (by intro e;have:=congrArg H e;rw[U,a7]at this;omega) ?_;simp -implicitDefEqProofs only[go_sem];refine VS.w (B) [8] (.q 0 (.q 1 (.q 2 (.q 3 (.q 4 (.q 5 (.q 6 (.q 7 (.w 8 .nil))))))))) mixed (by kernel_rfl) ?_;simp -implicitDefEqProofs only[go_sem,n1,n2,m4,k1,d3,d4,d5,c1,S,a5];have ss:Sl 8 h (.slice (Q ⟨b,i*8,O⟩) (l.length+1-i) (cap-i)) (l.length+1-i) (ZK Zn (l.drop i)++Zx.take 8):=Wo (post:=Zx.drop 8) (by rw[hg,ee,ao,ao,ay]) (by rw[U,ld,aI];omega) lt.symm;have min2:min (l.length+1-i) (l.length+1-(i+1))=l.length-i:=by omega
  have etk:(ZK Zn (l.drop i)++Zx.take 8).take ((l.length-i)*8)=ZK Zn (l.drop i):=bE ld;have ld1:(ZK Zn (l.drop (i+1))).length=(l.length-(i+1))*8:=by rw[X3,av]
  have ecc:ZK Zn l++Zx=(ZK Zn (l.take i)++Zn l[i])++((ZK Zn (l.drop (i+1))++Zx.take 8)++Zx.drop 8):=by
   rw[ee,ed];simp only[ao,ay]
  have ec1:YJ (ZK Zn l++Zx) ((i+1)*8) (ZK Zn (l.drop i))=ZK Zn (l.take i)++(Zn l[i]++(ZK Zn (l.drop i)++Zx.drop 8)):=by
   rw[ecc,Vg (by rw[U,lt];show (i+1)*8=i*8+8;omega) (by rw[ld,U,ld1,aI];omega),ao]
  refine ja (E:=168) (n:=8) SM OY gB ss (by rw[min2,etk];exact Bc _) ?_ ?_
  .rw[min2,U,X3];omega
  rw[min2,etk,ec1];obtain⟨g2,IV⟩:=ZD (h.setIfInBounds b (.cells (ZK Zn (l.take i)++(Zn l[i]++(ZK Zn (l.drop i)++Zx.drop 8))).toArray 168):Hp);rw[<-IV];have g2n:g2[b]? = Q (.cells (ZK Zn (l.take i)++(Zn l[i]++(ZK Zn (l.drop i)++Zx.drop 8))).toArray 168):=by rw[IV];exact ZE hg
  have g2v:g2[bv]? = Q (.cells (Zn x).toArray 168):=by rw[IV,Zq hbv];exact hx
  have bg2:Zf B h g2:=by rw[IV];exact Zf.set OJ _
  clear IV;have sx1:Sl 8 g2 (.slice (Q ⟨bv,0,O⟩) 1 1) 1 (Zn x):=Wo (pre:=[]) (post:=[]) (by rw[bh,bk];exact g2v) rfl rfl;have rE:min 1 (l.length+1-i)=1:=by omega
  have ec2:YJ (ZK Zn (l.take i)++(Zn l[i]++(ZK Zn (l.drop i)++Zx.drop 8))) (i*8) ((Zn x).take (1*8))=ZK Zn (l.take i++x :: l.drop i)++Zx.drop 8:=by
   rw[show (Zn x).take (1*8)=Zn x from rfl,Vg lt.symm (show (Zn x).length=(Zn l[i]).length from rfl),Zih];simp only[ao]
  simp -implicitDefEqProofs only[go_sem,n1,n2,m4,k1,d3,d4,d5,c1,S,a5];refine Ma (E:=168) (n:=8) SM OY g2n sx1 rfl ?_ ?_
  .rw[rE,U,U,lt];show i*8+1*8<=i*8+(8+_);omega
  rw[rE,ec2];simp -implicitDefEqProofs only[go_sem];refine⟨⟨?_⟩,bg2.trans (Zf.set OJ _)⟩;rw[yL];exact Own.aJ OJ (ZE g2n) (by rw[X3,yL]) (by rw[av,TM];omega) (by omega)
theorem yN{l:List Vt}(hs:Srt l)(hm:∀x∈l,Yv x):∀i (hi:i<(H l)),(i:Int)<=l[i].ZA:=by
 intro i
 induction i with
 | zero=>intro hi;have:=(hm _ (bD hi)).1.1;omega
 | succ i ih=>
  intro hi;have h1:=ih gX;have h2:=hs i (i+1) gX hi gX;omega
theorem yO{l:List Vt}(hs:Srt l)(hm:∀x∈l,Yv x):(H l)<=40:=by
 by_cases h:(H l)<=40
 .exact h
 .have h1:=yN hs hm 40 gX;have h2:=(hm _ (bD (show 40<(H l) by omega))).1.2;omega
def Xk(p:Ji)(l:List Vt)(x:Vt):Int:=if X8 p l≠0 then 5 else if ¬Yv x then 2 else if Y4 x.b p then 7 else 0
def fY(B:Nat)(h':Hp)(v':a4)(p:Ji)(l:List Vt)(x:Vt):Prop:=∃w,v'=.tuple [aa (Y0 (if Xk p l x=0 then x.b else ⟨0,0⟩) w).toArray,D t (Xk p l x)].toArray /\
 JD B 168 Zn 8 h' w (if Xk p l x=0 then Ui l x else [])
theorem Ms(h:Hp)(p:Ji)(u:a4)(l:List Vt)(x:Vt)(s:Ts Zn 8 h u l)(hl:(H l)<=2199023255552):
  Zc az T 136 #[aa (Y0 p u).toArray,aa (Zn x).toArray] h fun v' h'=>fY h.size h' v' p l x/\Zf h.size h h':=by
 obtain⟨pu,cu,rfl,_⟩:=Uw s;refine Zc.PX [_,_] Tryz.func136 ?_;unfold Y0 Zn;simp -implicitDefEqProofs only[go_sem];obtain⟨h0,Jk⟩:=ZD (((h.push (K (Y0 p (J pu (H l) cu)).toArray 119)).push (K (Zn x).toArray 168)).push (K [D t 0,D t 0,J O 0 0].toArray 119):Hp);have b0:Zf h.size h h0:=by rw[Jk];exact (((Zf.refl _ _).add _).add _).add _
 have s0:h0.size=h.size+3:=by rw[Jk];simp
 have x0:h0[h.size]? = Q (K (Y0 p (J pu (H l) cu)).toArray 119):=by
  rw[Jk,W,if_neg L6,W,if_neg Dq,Zb]
 have y0:h0[h.size+1]? = Q (K (Zn x).toArray 168):=by
  rw[Jk,W,if_neg Dq,W,if_pos Dq]
 have z0:h0[h.size+2]? = Q (K [D t 0,D t 0,J O 0 0].toArray 119):=by
  rw[Jk,W,if_pos Dq]
 have e0:((h.push (K #[Value.int t p.r,D t p.n,J pu (H l) cu] 119)).push (K #[Value.int t x.ZA,D t x.b.r,D t x.b.n,D t x.k,D t x.c,D t x.s,D t x.nm,D t x.v] 168)).push (K #[Value.int t 0,D t 0,J O 0 0] 119)=h0:=Jk.symm;rw[e0];clear e0 Jk;refine (PH T h0 p _ l (s.Yb b0) gX).use ?_;rintro _ h1 ⟨rfl,b1⟩;have s1:=b1.size;have B1:Zf h.size h h1:=b0.trans (b1.mono gX);have x1:=b1.get gX x0;have y1:=b1.get gX y0;have z1:=b1.get gX z0;have fin:∀(G:Hp) (w:List a4),(H w)=3->w.all Yq=true->G[h.size+2]? = Q (K [D t 0,D t 0,J O 0 0].toArray 119)->wr G ⟨h.size+1+1,0,O⟩ w=Q (G.setIfInBounds (h.size+1+1) (K w.toArray 119)):=by
  intro G w h3 h1 hx;rw[Z2 (b:=h.size+1+1) hx 0 w,ZZ (by rw[h3];rfl),if_pos ⟨by rw[h3];simp,h1⟩]
 have rF:h.size+2<h1.size:=gX;unfold fY;rcases Lb p l with e0|e0
 case inr=>
  have e:Xk p l x=5:=by unfold Xk;rw[if_pos (by rw[e0];decide)]
  have w2:=fin h1 [D t 0,D t 0,J O 0 0] rfl rfl z1;simp -implicitDefEqProofs only[go_sem,e0,e,w2,rF];exact⟨⟨_,rfl,JD.nil _ _ _ _ _⟩,B1.Zj gX _⟩
 have r1:rd h1 ⟨h.size+1,0,O⟩ 8=Q (Zn x):=Zs y1 rfl;unfold Zn at r1;simp -implicitDefEqProofs only[go_sem,e0,r1];refine (Kk T h1 x).use ?_;rintro _ h2 ⟨rfl,b2⟩;have s2:=b2.size;have B2:=B1.trans (b2.mono gX);have x2:=b2.get gX x1;have y2:=b2.get gX y1;have z2:=b2.get gX z1;have Mh:h.size+2<h2.size:=gX;by_cases q1:Yv x
 case neg=>
  have e:Xk p l x=2:=by unfold Xk;rw[if_neg (by rw[e0];decide),if_pos q1]
  have w2:=fin h2 [D t 0,D t 0,J O 0 0] rfl rfl z2;simp -implicitDefEqProofs only[go_sem,q1,e,w2,Mh];exact⟨⟨_,rfl,JD.nil _ _ _ _ _⟩,B2.Zj gX _⟩
 have rb:rd h2 ⟨h.size+1,1,O⟩ 2=Q [D t x.b.r,D t x.b.n]:=by rw[Yh y2 (by simp[Zn])];rfl
 have rp:rd h2 ⟨h.size,0,O⟩ 2=Q [D t p.r,D t p.n]:=by rw[Yh x2 (by simp[Y0])];rfl
 simp -implicitDefEqProofs only[go_sem,q1,rb,rp];refine (Wz T h2 x.b p).use ?_;rintro _ h3 ⟨rfl,b3⟩;have s3:=b3.size;have B3:=B2.trans (b3.mono gX);have x3:=b3.get gX x2;have y3:=b3.get gX y2;have z3:=b3.get gX z2;have jq:h.size+2<h3.size:=gX;by_cases q2:Y4 x.b p
 case pos=>
  have e:Xk p l x=7:=by unfold Xk;rw[if_neg (by rw[e0];decide),if_neg (fun h=>h q1),if_pos q2]
  have w2:=fin h3 [D t 0,D t 0,J O 0 0] rfl rfl z3;have xI:Mk x.b p<0:=(Nc x.b p).2 q2;simp -implicitDefEqProofs only[go_sem,xI,e,w2,jq];exact⟨⟨_,rfl,JD.nil _ _ _ _ _⟩,B3.Zj gX _⟩
 have e:Xk p l x=0:=by unfold Xk;rw[if_neg (by rw[e0];decide),if_neg (fun h=>h q1),if_neg q2]
 have xI:¬Mk x.b p<0:=fun h=>q2 ((Nc x.b p).1 h);have srt:=ID e0;have few:=yO srt (bM e0);have rv:hc h3 ⟨h.size,2,O⟩=Q (J pu (H l) cu):=by rw[Zg x3];rfl
 simp -implicitDefEqProofs only[go_sem,xI,rv];refine (VJ T h3 _ l (s.Yb B3) hl).use ?_;rintro w4 h4 ⟨o4,b4⟩;have s4:=b4.size;have B4:=B3.trans (b4.mono gX);have y4:=b4.get gX y3;have z4:=b4.get gX z3;have r4:rd h4 ⟨h.size+1,0,O⟩ 8=Q (Zn x):=Zs y4 rfl;unfold Zn at r4;simp -implicitDefEqProofs only[go_sem,r4];refine (cU T h4 w4 l x o4.ts srt hl).use ?_;rintro _ h5 ⟨⟨i,b,hi,rfl,hf⟩,b5⟩;have s5:=b5.size;have B5:=B4.trans (b5.mono gX);have y5:=b5.get gX y4;have z5:=b5.get gX z4;have o5:=o4.Yb b5 (R _);have r5:rd h5 ⟨h.size+1,0,O⟩ 8=Q (Zn x):=Zs y5 rfl;unfold Zn at r5;have n1:(0:Int)<=(i:Int):=gX;obtain⟨p4,c4,rfl,hc4⟩:=o4.open;rcases hf with⟨rfl,Bb,heq⟩|⟨rfl,hlo,hhi⟩
 .have ru:(i:Int)<((H l):Int):=gX;have c0:c4≠0:=gX;obtain⟨b,Zx,OJ,rfl,hg,_,TM,_⟩:=o5.Zy.Zx c0;have et:l=l.take i++(l[i] :: l.drop (i+1)):=by
   conv=>lhs;rw[<-ay i l,a8 Bb]
  have es:l.set i x=l.take i++(x :: l.drop (i+1)):=by rw[List.set_eq_take_append_cons_drop,if_pos Bb]
  have ee:ZK Zn l=ZK Zn (l.take i)++(Zn l[i]++ZK Zn (l.drop (i+1))):=by
   have:=congrArg (ZK Zn) et;rw[YD]at this;exact this
  have ZqB:ZK Zn (l.set i x)=ZK Zn (l.take i)++(Zn x++ZK Zn (l.drop (i+1))):=by
   have:=congrArg (ZK Zn) es;rw[YD]at this;exact this
  have lt:(ZK Zn (l.take i)).length=i*8:=by rw[X3,aI];congr 1;omega
  have hw:wr h5 ⟨b,i*8,O⟩ (Zn x)=Q (h5.setIfInBounds b (K (ZK Zn (l.set i x)++Zx).toArray 168)):=by
   have ll:=X3 l;have hmul:i*8+8<=(H l)*8:=gX;rw[Z2 hg,if_pos ⟨by rw[U,ll];show i*8+8<=_;omega,rfl⟩,ee,ao,ao,Vg lt.symm (show (Zn x).length=(Zn l[i]).length from rfl),ZqB,ao,ao]
  have hbz:b<h5.size:=Za hg;have C1:¬h.size+1=b:=gX;have rG:¬h.size+2=b:=gX;have rb5:rd h5 ⟨h.size+1,1,O⟩ 2=Q [D t x.b.r,D t x.b.n]:=by rw[Yh y5 (by simp[Zn])];rfl
  obtain⟨h6,rH⟩:=ZD (h5.setIfInBounds b (K (ZK Zn (l.set i x)++Zx).toArray 168):Hp);rw[<-rH]at hw;unfold Zn at hw;have y6:h6[h.size+1]? = Q (K (Zn x).toArray 168):=by rw[rH,Zq gX];exact y5
  have z6:h6[h.size+2]? = Q (K [D t 0,D t 0,J O 0 0].toArray 119):=by rw[rH,Zq gX];exact z5
  have B6:Zf h.size h h6:=by rw[rH];exact B5.Zj gX _
  have o6:JD (h.size+3) 168 Zn 8 h6 (J (Q ⟨b,0,O⟩) (H l) c4) (l.set i x):=by
   refine⟨?_⟩;rw[bH];exact Own.aJ gX (by rw[rH];exact ZE hg) (by rw[X3,bH]) TM hc4
  have rb6:rd h6 ⟨h.size+1,1,O⟩ 2=Q [D t x.b.r,D t x.b.n]:=by rw[Yh y6 (by simp[Zn])];rfl
  have w6:=fin h6 [D t x.b.r,D t x.b.n,J (Q ⟨b,0,O⟩) (H l) c4] rfl rfl z6;have ZqC:h.size+2<h6.size:=Za z6;simp -implicitDefEqProofs only[go_sem,n1,ru,r5,S,a5,hw,rb6,w6,ZqC,e];refine⟨⟨_,rfl,?_⟩,B6.Zj gX _⟩;rw[qo srt Bb heq];exact (o6.Z3 gX _).mono gX
 .have hn:Ui l x=l.take i++x :: l.drop i:=qp srt hi hlo hhi;simp -implicitDefEqProofs only[go_sem,r5];obtain⟨h6,rH⟩:=ZD (h5.push (K (Zn x).toArray 168):Hp);have e6:h5.push (K #[Value.int t x.ZA,D t x.b.r,D t x.b.n,D t x.k,D t x.c,D t x.s,D t x.nm,D t x.v] 168)=h6:=rH.symm;rw[e6];have b6:Zf h5.size h5 h6:=by rw[rH];exact Zf.push (R _) _
  have s6:h6.size=h5.size+1:=by rw[rH];simp
  have v6:h6[h5.size]? = Q (K (Zn x).toArray 168):=by rw[rH];exact Zb
  clear e6 rH;have B6:=B5.trans (b6.mono gX);have o6:=(o5.Yb b6 (R _)).mono (B':=h.size+3) gX;have Ys:c4≠0->∀b o,p4=Q ⟨b,o,O⟩->b≠h5.size:=by
   intro c0 b o hp;subst hp;obtain⟨b',_,_,Jc,Ij,_⟩:=o5.Zy.Zx c0;simp only[Option.some.injEq,Addr.mk.injEq]at Jc;have:=Za Ij;omega
  refine (j6 T h6 (h.size+3) p4 c4 i l x h5.size o6 gX hi gX v6 Ys).use ?_;rintro w7 h7 ⟨o7,b7⟩;obtain⟨p7,c7,rfl,_⟩:=o7.open;have s7:=b7.size;have B7:=B6.trans (b7.mono gX);have y7:=b7.get gX (b6.get gX y5);have z7:=b7.get gX (b6.get gX z5);have rb7:rd h7 ⟨h.size+1,1,O⟩ 2=Q [D t x.b.r,D t x.b.n]:=by rw[Yh y7 (by simp[Zn])];rfl
  obtain⟨L,hL⟩:=ZD (l.take i++x :: l.drop i);rw[<-hL]at o7 hn ⊢;have w7:=fin h7 [D t x.b.r,D t x.b.n,J p7 (H L) c7] rfl rfl z7;have IN:h.size+2<h7.size:=Za z7;simp -implicitDefEqProofs only[go_sem,rb7,w7,IN,e];refine⟨⟨_,rfl,?_⟩,B7.Zj gX _⟩;rw[hn];exact (o7.Z3 gX _).mono gX
def U6(l:List Nat)(n:Int)(x:Vt):Int:=if ¬Xu l n then 5 else if ¬Yv x then 2 else J7 l n 33
def Ph(x:Vt):List Nat:=2 :: (ZG [x.ZA.toNat,x.b.r.toNat,x.b.n.toNat]++ZG [x.k.toNat,x.c.toNat,x.s.toNat,x.nm.toNat,x.v.toNat])
theorem cW(x:Vt):Xk ⟨0,0⟩ [] x=if Yv x then 0 else 2:=by
 have e:X8 ⟨0,0⟩ []=0:=rfl;unfold Xk;rw[if_neg (by rw[e];decide)];by_cases q:Yv x
 .rw[if_neg (fun hn=>hn q),if_pos q,if_neg];intro hb;have q1:=q.2.1.1.1;rcases hb with hb|⟨hb,_⟩<;>simp at hb<;>omega
 .rw[if_pos q,if_neg q]
theorem rI(h:Hp)(v:a4)(n:Int)(l:List Nat)(x:Vt)(s:Bs h v l)(hl:(H l)<=140737488355328)(tk:Tk h):
  Zc az T 159 #[aa [v,D t n].toArray,aa (Zn x).toArray] h fun v' h'=>T1 h.size h' v' l n (U6 l n x) (Xt (Ph x))/\Zf h.size h h':=by
 obtain⟨p,c,rfl,_⟩:=s.open;refine Zc.Y8 [_,_] Tryz.func159 ?_;unfold T1 Zn;simp -implicitDefEqProofs only[go_sem];obtain⟨h0,Jk⟩:=ZD (((h.push (K [J p (H l) c,D t n].toArray 114)).push (K (Zn x).toArray 168)).push (K [J O 0 0,D t 0].toArray 114):Hp);have b0:Zf h.size h h0:=by rw[Jk];exact (((Zf.refl _ _).add _).add _).add _
 have s0:h0.size=h.size+3:=by rw[Jk];simp
 have t0:h0[h.size]? = Q (K [J p (H l) c,D t n].toArray 114):=by
  rw[Jk,W,if_neg L6,W,if_neg Dq,Zb]
 have t1:h0[h.size+1]? = Q (K (Zn x).toArray 168):=by
  rw[Jk,W,if_neg Dq,W,if_pos Dq]
 have x0:h0[h.size+2]? = Q (K [J O 0 0,D t 0].toArray 114):=by
  rw[Jk,W,if_pos Dq]
 have e0:((h.push (K #[Value.slice p (H l) c,D t n] 114)).push (K #[Value.int t x.ZA,D t x.b.r,D t x.b.n,D t x.k,D t x.c,D t x.s,D t x.nm,D t x.v] 168)).push (K #[Value.slice O 0 0,D t 0] 114)=h0:=Jk.symm;rw[e0];clear e0 Jk;refine (QG T h0 _ n l (s.Yb b0) hl).use ?_;rintro _ h1 ⟨b1,o1⟩;have s1:=b1.size;have B1:Zf h.size h h1:=b0.trans (b1.mono gX);have x1:=b1.get gX x0;by_cases ok:Xu l n
 case neg=>
  have ee:U6 l n x=5:=by unfold U6;rw[if_pos ok]
  rw[if_neg (show ¬((H l)<=100000/\0<=n/\n<=(H l)) from ok)]at o1;subst o1;rw[ee];have y2:=Z2 x1 0;have ZL:h.size+2<h1.size:=gX;have Ys:¬h.size+2=h1.size:=gX;simp -implicitDefEqProofs only[go_sem,y2,Ys,ZL];exact⟨⟨_,rfl,Yd.nil _ _ _⟩,(B1.Zj gX _).Yx L6 _⟩
 rw[if_pos (show ((H l)<=100000/\0<=n/\n<=(H l)) from ok)]at o1;obtain⟨w,rfl,o1⟩:=o1;obtain⟨pw,cw,rfl,_⟩:=o1.open;have bt1:=b1.get gX t1;have r1:rd h1 ⟨h.size+1,0,O⟩ 8=Q (Zn x):=Zs bt1 rfl;unfold Zn at r1;have C1:¬h.size+1=h1.size:=gX;simp -implicitDefEqProofs only[go_sem,r1,C1];have b2:Zf h1.size h1 (h1.push (K [J pw (H l) cw,D t n].toArray 114)):=Zf.push (R _) _;refine (Ms T _ ⟨0,0⟩ (J O 0 0) [] x (JD.nil 0 168 Zn 8 _).ts Dq).use ?_;rintro _ h3 ⟨⟨w1,rfl,q1⟩,b3⟩;have B3:Zf h1.size h1 h3:=b2.trans (b3.mono b2.size);rw[cW]at q1 ⊢;obtain⟨p1,c1,bP,_⟩:=q1.open;have s3:=B3.size;have x3:=B3.get gX x1;have mN:=B1.trans (B3.mono gX);by_cases may:Yv x
 case neg=>
  have ee:U6 l n x=2:=by unfold U6;rw[if_neg (fun hn=>hn ok),if_pos may]
  rw[if_neg may]at bP;rw[ee,if_neg may];subst bP;have y2:=Z2 x3 0;have ZL:h.size+2<h3.size:=gX;have Ys:¬h.size+2=h3.size:=gX;unfold Y0;simp -implicitDefEqProofs only[go_sem,y2,Ys,ZL];exact⟨⟨_,rfl,Yd.nil _ _ _⟩,(mN.Zj gX _).Yx L6 _⟩
 have ee:U6 l n x=J7 l n 33:=by unfold U6;rw[if_neg (fun hn=>hn ok),if_neg (fun hn=>hn may)]
 rw[if_pos may]at bP;rw[ee,if_pos may];obtain⟨⟨m1,m2⟩,⟨⟨m3,m4⟩,m5,m6⟩,mc⟩:=may;obtain⟨xs,⟨br,bn⟩,xk,xc,xss,xn,xv⟩:=x;simp only at m1 m2 m3 m4 m5 m6 mc;obtain⟨k,c2,s2,nm,vv,rfl,rfl,rfl,rfl,rfl,_⟩:=M0 mc;obtain⟨sl,rfl⟩:∃r:Nat,xs=r:=⟨xs.toNat,gX⟩
 obtain⟨r,rfl⟩:∃r:Nat,br=r:=⟨br.toNat,gX⟩
 obtain⟨m,rfl⟩:∃m:Nat,bn=m:=⟨bn.toNat,gX⟩
 unfold Ph;rw[if_pos rfl]at bP;subst bP;unfold Y0;have t3:=B3.get gX (b1.get gX t0);have t13:=B3.get gX bt1;have rc:rd h3 ⟨h.size+1,3,O⟩ 5=Q (QR k c2 s2 nm vv):=by rw[Yh t13 (by simp[Zn])];rfl
 unfold QR at rc;have ZqD:¬h.size+1=h3.size:=gX;simp -implicitDefEqProofs only[go_sem,rc,ZqD];obtain⟨g0,hg0⟩:=ZD (h3.push (K [D t (r:Nat),D t (m:Nat),J p1 (Ui [] ⟨sl,⟨r,m⟩,k,c2,s2,nm,vv⟩).length c1].toArray 119):Hp);have e3:h3.push (K #[Value.int t (r:Nat),D t (m:Nat),J p1 (Ui [] ⟨sl,⟨r,m⟩,k,c2,s2,nm,vv⟩).length c1] 119)=g0:=hg0.symm;rw[e3];have bg0:Zf h3.size h3 g0:=by rw[hg0];exact Zf.push (R _) _
 have sg0:g0.size=h3.size+1:=by rw[hg0];simp
 clear e3 hg0;refine (GV T g0 k c2 s2 nm vv).use ?_;rintro _ g ⟨⟨wc,rfl,sC⟩,bg1⟩;rw[mc,if_pos rfl]at sC;simp only[S]at sC ⊢;rw[mc];have lC:(ZG [k,c2,s2,nm,vv]).length=20:=by rw[ZO];rfl
 generalize ZG [k,c2,s2,nm,vv]=CB at *;obtain⟨pc,cc,rfl,_⟩:=sC.open;have bg:Zf h3.size h3 g:=bg0.trans (bg1.mono gX);have sg:h3.size+1<=g.size:=by have:=bg1.size;omega
 have Bg:Zf h.size h g:=mN.trans (bg.mono gX);have x4g:=bg.get gX x3;have t4:=bg.get gX t3;have t14:=bg.get gX t13;have r0:rd g ⟨h.size,0,O⟩ 2=Q [J p (H l) c,D t n]:=Zs t4 rfl;have c0:V.hc g ⟨h.size+1,0,O⟩=Q (D t (sl:Nat)):=by rw[Zg t14];rfl
 have c1':V.hc g ⟨h.size+1,1,O⟩=Q (D t (r:Nat)):=by rw[Zg t14];rfl
 have xI:V.hc g ⟨h.size+1,2,O⟩=Q (D t (m:Nat)):=by rw[Zg t14];rfl
 have k0:h.size<g.size:=gX;have k1:h.size+1<g.size:=gX;simp -implicitDefEqProofs only[go_sem];refine VS.w (g.size) [18,19] (.q 0 (.q 2 (.q 3 (.q 4 (.q 5 (.q 6 (.q 7 (.q 8 (.q 9 (.q 13 (.or 1 (.s 10 (.s 11 (.s 12 (.s 14 (.s 15 (.q 16 (.q 17 (.w 18 (.w 19 .nil))))))))) (.s 10 (.or 1 (.s 11 (.s 12 (.s 14 (.s 15 (.q 16 (.q 17 (.w 18 (.w 19 .nil)))))))) (.s 11 (.s 1 (.s 12 (.s 14 (.s 15 (.q 16 (.q 17 (.w 18 (.w 19 .nil)))))))))))))))))))))) mixed po ?_;simp -implicitDefEqProofs only[go_sem,r0,c0,c1',xI,k0,k1];refine⟨?_,?_,?_⟩
 .have o0:Yd g.size 5 (g.push (K (([2]:List Nat).map bv).toArray 5)) (J (Q ⟨g.size,0,O⟩) 1 1) [2]:=Yd.made MZ (R _);have B0:Zf g.size g ((g.push (K (([2]:List Nat).map bv).toArray 5)).push (K (([sl,r,m]:List Nat).map nv).toArray 3)):=(Zf.push (R _) _).Yx Dq _;have o00:=o0.push (K (([sl,r,m]:List Nat).map nv).toArray 3);have si:NT ((g.push (K (([2]:List Nat).map bv).toArray 5)).push (K (([sl,r,m]:List Nat).map nv).toArray 3)) (J (Q ⟨(g.push (K (([2]:List Nat).map bv).toArray 5)).size,0,O⟩) 3 3) [sl,r,m]:=Wp _ _;have e1:(g.push (K (([2]:List Nat).map bv).toArray 5)).size=g.size+1:=Dq;rw[e1]at si;refine (Tt T _ _ [sl,r,m] si Dq (by intro x hx;simp only[bz,be,or_false]at hx;omega)).use ?_;rintro w5 h5 ⟨o5,b5⟩;have BB:=B0.trans (b5.mono B0.size);have o1:=o00.Yb b5 (R _);have s4:=o5.bs;simp -implicitDefEqProofs only[go_sem,BB];refine ZF (E:=5) (B:=g.size) YN a6 WS VC VB o1 BB.size s4 (by rw[ZO];simp) ?_;intro w6 h6 o6 b6 _;have B6:Zf g.size g h6:=BB.trans b6;have qP:Yd g.size 5 h6 w6 (2 :: ZG [sl,r,m]):=o6;have l6:(2 :: ZG [sl,r,m]).length=13:=by simp only[aw,ZO,a7]
  simp -implicitDefEqProofs only[go_sem,B6];refine ZF (E:=5) (B:=g.size) YN a6 WS VC VB qP B6.size (sC.Yb B6) gX ?_;intro w7 h7 o7 b7 _;have B7:Zf g.size g h7:=B6.trans b7;have HF:=Bg.trans (B7.mono gX);have o7':Yd g.size 5 h7 w7 (2 :: (ZG [sl,r,m]++CB)):=o7;have el:(2 :: (ZG [sl,r,m]++CB)).length=33:=by rw[aw,U,lC,ZO];rfl
  simp -implicitDefEqProofs only[go_sem,B7];refine (Tq T h7 _ w7 n l (2 :: (ZG [sl,r,m]++CB)) (s.Yb HF) hl o7'.bs gX (tk.JT HF)).use ?_;rintro _ h8 ⟨⟨w8,rfl,o8⟩,b8⟩;rw[el]at o8 ⊢;have B8:Zf g.size g h8:=B7.trans (b8.mono B7.size);have Bh8:=HF.trans (b8.mono HF.size);have x8:=B8.get gX x4g;have y8:=Z2 x8 0;have rK:h.size+2<h8.size:=Za x8;generalize Xt (2 :: (ZG [sl,r,m]++CB))=FR at *;obtain⟨E,hE⟩:=ZD (J7 l n 33);rw[<-hE]at o8 ⊢;obtain⟨z,hz⟩:∃z:Int,z=if E=0 then n else 0:=⟨_,rfl⟩
  rw[<-hz];obtain⟨pz,cz,rfl,_⟩:=o8.open;simp -implicitDefEqProofs only[go_sem,B8,y8,rK];refine⟨⟨_,rfl,?_⟩,Bh8.Zj gX _⟩;exact (o8.Z3 (by have:=B7.size;omega) _).mono (by have:=B7.size;omega)
 .have yG:Zf g.size g (g.push (K (([sl,r,m]:List Nat).map nv).toArray 3)):=Zf.push (R _) _;have o0:Yd g.size 5 ((g.push (K (([sl,r,m]:List Nat).map nv).toArray 3)).push (K (([2]:List Nat).map bv).toArray 5)) (J (Q ⟨(g.push (K (([sl,r,m]:List Nat).map nv).toArray 3)).size,0,O⟩) 1 1) [2]:=(Yd.made MZ (R _)).mono Dq;have B0:Zf g.size g ((g.push (K (([sl,r,m]:List Nat).map nv).toArray 3)).push (K (([2]:List Nat).map bv).toArray 5)):=yG.Yx Dq _;have si0:NT (g.push (K (([sl,r,m]:List Nat).map nv).toArray 3)) (J (Q ⟨g.size,0,O⟩) 3 3) [sl,r,m]:=Wp _ _;have si:=si0.Yb (Zf.push (R _) (K (([2]:List Nat).map bv).toArray 5));have e1:(g.push (K (([sl,r,m]:List Nat).map nv).toArray 3)).size=g.size+1:=Dq;rw[e1]at o0;refine (Tt T _ _ [sl,r,m] si Dq (by intro x hx;simp only[bz,be,or_false]at hx;omega)).use ?_;rintro w5 h5 ⟨o5,b5⟩;have BB:=B0.trans (b5.mono B0.size);have o1:=o0.Yb b5 (R _);have s4:=o5.bs;simp -implicitDefEqProofs only[go_sem,BB];refine ZF (E:=5) (B:=g.size) YN a6 WS VC VB o1 BB.size s4 (by rw[ZO];simp) ?_;intro w6 h6 o6 b6 _;have B6:Zf g.size g h6:=BB.trans b6;have qP:Yd g.size 5 h6 w6 (2 :: ZG [sl,r,m]):=o6;have l6:(2 :: ZG [sl,r,m]).length=13:=by simp only[aw,ZO,a7]
  simp -implicitDefEqProofs only[go_sem,B6];refine ZF (E:=5) (B:=g.size) YN a6 WS VC VB qP B6.size (sC.Yb B6) gX ?_;intro w7 h7 o7 b7 _;have B7:Zf g.size g h7:=B6.trans b7;have HF:=Bg.trans (B7.mono gX);have o7':Yd g.size 5 h7 w7 (2 :: (ZG [sl,r,m]++CB)):=o7;have el:(2 :: (ZG [sl,r,m]++CB)).length=33:=by rw[aw,U,lC,ZO];rfl
  simp -implicitDefEqProofs only[go_sem,B7];refine (Tq T h7 _ w7 n l (2 :: (ZG [sl,r,m]++CB)) (s.Yb HF) hl o7'.bs gX (tk.JT HF)).use ?_;rintro _ h8 ⟨⟨w8,rfl,o8⟩,b8⟩;rw[el]at o8 ⊢;have B8:Zf g.size g h8:=B7.trans (b8.mono B7.size);have Bh8:=HF.trans (b8.mono HF.size);have x8:=B8.get gX x4g;have y8:=Z2 x8 0;have rK:h.size+2<h8.size:=Za x8;generalize Xt (2 :: (ZG [sl,r,m]++CB))=FR at *;obtain⟨E,hE⟩:=ZD (J7 l n 33);rw[<-hE]at o8 ⊢;obtain⟨z,hz⟩:∃z:Int,z=if E=0 then n else 0:=⟨_,rfl⟩
  rw[<-hz];obtain⟨pz,cz,rfl,_⟩:=o8.open;simp -implicitDefEqProofs only[go_sem,B8,y8,rK];refine⟨⟨_,rfl,?_⟩,Bh8.Zj gX _⟩;exact (o8.Z3 (by have:=B7.size;omega) _).mono (by have:=B7.size;omega)
 .have yG:Zf g.size g (g.push (K (([sl,r,m]:List Nat).map nv).toArray 3)):=Zf.push (R _) _;have si:NT (g.push (K (([sl,r,m]:List Nat).map nv).toArray 3)) (J (Q ⟨g.size,0,O⟩) 3 3) [sl,r,m]:=Wp _ _;refine (Tt T _ _ [sl,r,m] si Dq (by intro x hx;simp only[bz,be,or_false]at hx;omega)).use ?_;rintro w5 h5 ⟨o5,b5⟩;have yH:=yG.trans (b5.mono yG.size);have BB:Zf g.size g (h5.push (K (([2]:List Nat).map bv).toArray 5)):=yH.Yx yH.size _;have o1:Yd g.size 5 (h5.push (K (([2]:List Nat).map bv).toArray 5)) (J (Q ⟨h5.size,0,O⟩) 1 1) [2]:=(Yd.made MZ (R _)).mono yH.size;have s4:=o5.bs.Yb (Zf.push (R h5.size) (K (([2]:List Nat).map bv).toArray 5));simp -implicitDefEqProofs only[go_sem,yH,BB];refine ZF (E:=5) (B:=g.size) YN a6 WS VC VB o1 BB.size s4 (by rw[ZO];simp) ?_;intro w6 h6 o6 b6 _;have B6:Zf g.size g h6:=BB.trans b6;have qP:Yd g.size 5 h6 w6 (2 :: ZG [sl,r,m]):=o6;have l6:(2 :: ZG [sl,r,m]).length=13:=by simp only[aw,ZO,a7]
  simp -implicitDefEqProofs only[go_sem,B6];refine ZF (E:=5) (B:=g.size) YN a6 WS VC VB qP B6.size (sC.Yb B6) gX ?_;intro w7 h7 o7 b7 _;have B7:Zf g.size g h7:=B6.trans b7;have HF:=Bg.trans (B7.mono gX);have o7':Yd g.size 5 h7 w7 (2 :: (ZG [sl,r,m]++CB)):=o7;have el:(2 :: (ZG [sl,r,m]++CB)).length=33:=by rw[aw,U,lC,ZO];rfl
  simp -implicitDefEqProofs only[go_sem,B7];refine (Tq T h7 _ w7 n l (2 :: (ZG [sl,r,m]++CB)) (s.Yb HF) hl o7'.bs gX (tk.JT HF)).use ?_;rintro _ h8 ⟨⟨w8,rfl,o8⟩,b8⟩;rw[el]at o8 ⊢;have B8:Zf g.size g h8:=B7.trans (b8.mono B7.size);have Bh8:=HF.trans (b8.mono HF.size);have x8:=B8.get gX x4g;have y8:=Z2 x8 0;have rK:h.size+2<h8.size:=Za x8;generalize Xt (2 :: (ZG [sl,r,m]++CB))=FR at *;obtain⟨E,hE⟩:=ZD (J7 l n 33);rw[<-hE]at o8 ⊢;obtain⟨z,hz⟩:∃z:Int,z=if E=0 then n else 0:=⟨_,rfl⟩
  rw[<-hz];obtain⟨pz,cz,rfl,_⟩:=o8.open;simp -implicitDefEqProofs only[go_sem,B8,y8,rK];refine⟨⟨_,rfl,?_⟩,Bh8.Zj gX _⟩;exact (o8.Z3 (by have:=B7.size;omega) _).mono (by have:=B7.size;omega)
structure V0 where
 p:Ji
 l:List Vt
def rL(b:List Nat):Vt->Vt:=fun v=>⟨v.ZA,v.b,XZ b 0,XZ b 4,XZ b 8,XZ b 12,XZ b 16⟩
def JR(a:V0)(b:List Nat):Option V0:=
 if (H b)=9/\b.getD 0 0=1 then (if YT a.p a.l ⟨XZ b 1,XZ b 5⟩=0 then Q ⟨⟨XZ b 1,XZ b 5⟩,a.l⟩ else O)
 else if (H b)=33/\b.getD 0 0=2 then (if Uu (b.drop 13)≠0 then O else
  if Xk a.p a.l (rL (b.drop 13) ⟨XZ b 1,⟨XZ b 5,XZ b 9⟩,0,0,0,0,0⟩)=0 then Q ⟨⟨XZ b 5,XZ b 9⟩,Ui a.l (rL (b.drop 13) ⟨XZ b 1,⟨XZ b 5,XZ b 9⟩,0,0,0,0,0⟩)⟩ else O)
 else O
def ER(B:Nat)(h':Hp)(v':a4)(a:V0)(b:List Nat):Prop:=∃P p m c,v'=.tuple [aa (Y0 P (J p m c)).toArray,am (JR a b).isSome].toArray/\∀x,JR a b=Q x->P=x.p/\JD B 168 Zn 8 h' (J p m c) x.l
theorem rM(l:List Nat)(k i:Nat):XZ (l.drop k) i=XZ l (k+i):=by
 have e:∀j,(l.drop k).getD j 0=l.getD (k+j) 0:=fun j=>by rw[bc,bc,List.getElem?_drop]
 unfold XZ;rw[e,e,e,e];rfl
theorem yP(h:Hp)(v:a4)(l:List Nat)(s:Bs h v l)(hi:4<=(H l))(hl:(H l)<=140737488355328):
  Zc az T 135 #[v] h fun v' h'=>v'=D t (XZ l 0:Nat)/\h'=h:=by
 obtain⟨p,c,rfl,UX⟩:=s.UM;refine Zc.Y8 [_] Tryz.func135 ?_;obtain⟨b,o,rfl,hb,YR⟩:=UX (by intro e;subst e;simp at hi);have c0:=YR 0 gX;have c1:=YR 1 gX;have c2:=YR 2 gX;have c3:=YR 3 gX;have w0:=ZT s.byte 0;have w1:=ZT s.byte 1;have w2:=ZT s.byte 2;have w3:=ZT s.byte 3;have e4:=Es w0 w1 w2 w3;have n0:(0:Int)<(H l):=gX;have n1:(1:Int)<(H l):=gX;have n2:(2:Int)<(H l):=gX;have n3:(3:Int)<(H l):=gX;rw[bf]at c0;unfold XZ;rw[a5,a5,a5];generalize l.getD 0 0=a0 at *;generalize l.getD 1 0=a1 at *;generalize l.getD 2 0=a2 at *;generalize l.getD 3 0=a3 at *;simp -implicitDefEqProofs only[go_sem];refine VS.q mixed po ?_;simp -implicitDefEqProofs only[go_sem,c0,c1,c2,c3,n0,n1,n2,n3,e4]
 trace_state
theorem S9(h:Hp)(bb oo d d' m m0:Nat)(b:List Nat)(k:Nat)(s:Bs h (J (Q ⟨bb,oo,O⟩) m0 d) b)(vg:(H b)=m0)(hk:k+4<=m0)(hm:m=m0-k)(hl:m0<=100000):
  Zc az T 135 #[J (Q ⟨bb,oo+k,O⟩) m d'] h fun v' h'=>v'=D t (XZ b k:Nat)/\h'=h:=by
 subst hm;have s1:=TZ s (k:=k) (by omega) vg d';have:=yP T h _ (b.drop k) s1 (by rw[av];omega) (by rw[av];omega);rw[rM]at this;exact this
theorem cX(l:List Nat)(h:Uu l=0):Iq l=[D t (XZ l 0),D t (XZ l 4),D t (XZ l 8),D t (XZ l 12),D t (XZ l 16)]:=by
 unfold Iq;rw[if_pos h];rfl
theorem j7(l:List Nat)(h:¬Uu l=0):Iq l=[D t 0,D t 0,D t 0,D t 0,D t 0]:=by
 unfold Iq;rw[if_neg h];rfl
set_option maxHeartbeats 1000000 in
theorem rN(h:Hp)(P:Ji)(pv:Option Addr)(cv:Nat)(l:List Vt)(q:Option Addr)(m d:Nat)(b:List Nat)(s:Ts Zn 8 h (J pv (H l) cv) l)(sb:Bs h (J q m d) b)(hm:(H b)=m)(hl:(H l)<=1000000)(hb:m<=1000)(hd:m<=d):
  Zc az T 102 #[aa (Y0 P (J pv (H l) cv)).toArray,J q m d] h fun v' h'=>ER h.size h' v' ⟨P,l⟩ b/\Zf h.size h h':=by
 refine Zc.PX [_,_] Tryz.func102 ?_;unfold Y0;simp -implicitDefEqProofs only[go_sem];obtain⟨h0,Jk⟩:=ZD ((h.push (K (Y0 P (J pv (H l) cv)).toArray 119)).push (K [D t 0,D t 0,J O 0 0].toArray 119):Hp);have b0:Zf h.size h h0:=by rw[Jk];exact ((Zf.refl _ _).add _).add _
 have s0:h0.size=h.size+2:=by rw[Jk];simp
 have x0:h0[h.size]? = Q (K (Y0 P (J pv (H l) cv)).toArray 119):=by
  rw[Jk,W,if_neg (by simp),Zb]
 have z0:h0[h.size+1]? = Q (K [D t 0,D t 0,J O 0 0].toArray 119):=by
  rw[Jk,W,if_pos (by simp)]
 have e0:(h.push (K #[Value.int t P.r,D t P.n,J pv (H l) cv] 119)).push (K #[Value.int t 0,D t 0,J O 0 0] 119)=h0:=Jk.symm;rw[e0];clear e0 Jk;have fin:∀(G:Hp) (k:Nat) (w:List a4),(H w)=3->w.all Yq=true->G[k]? = Q (K [D t 0,D t 0,J O 0 0].toArray 119)->wr G ⟨k,0,O⟩ w=Q (G.setIfInBounds k (K w.toArray 119)):=by
  intro G k w h3 h1 hx;rw[Z2 (b:=k) hx 0 w,ZZ (by rw[h3];rfl),if_pos ⟨by rw[h3];simp,h1⟩]
 have sb0:=sb.Yb b0;have s0':=s.Yb b0;have r0:rd h0 ⟨h.size,0,O⟩ 3=Q [D t P.r,D t P.n,J pv (H l) cv]:=Zs x0 rfl;have k0:h.size<h0.size:=by omega
 have k1:h.size+1<h0.size:=by omega
 unfold ER;by_cases n9:m=9
 .subst n9;have k9:((9:Nat):Int)=9:=rfl;obtain⟨q',d',hv,hh⟩:=sb0.UM;simp only[Value.slice.injEq]at hv;obtain⟨rfl,_,rfl⟩:=hv;obtain⟨bb,oo,rfl,U9,YR⟩:=hh (by intro e;subst e;simp at hm);have c0:=YR 0 (by omega);rw[bf]at c0;by_cases q1:b.getD 0 0=1
  case neg=>
   have q1':¬((b.getD 0 0:Nat):Int)=1:=by omega
   have e:JR ⟨P,l⟩ b=O:=by
    unfold JR;rw[if_neg (fun hn=>q1 hn.2),if_neg (fun hn=>by omega)]
   have wz:=fin h0 (h.size+1) [D t P.r,D t P.n,J pv (H l) cv] rfl rfl z0;simp -implicitDefEqProofs only[go_sem,k9,c0,q1',e,r0,wz,k1];exact⟨⟨P,pv,(H l),cv,rfl,by simp⟩,b0.Zj (by omega) _⟩
  rw[q1]at c0;have e1:((1:Nat):Int)=1:=rfl;rw[e1]at c0;obtain⟨X,hX⟩:∃X:Ji,X=⟨XZ b 1,XZ b 5⟩:=⟨_,rfl⟩
  have e:JR ⟨P,l⟩ b=if YT P l X=0 then Q ⟨X,l⟩ else O:=by
   unfold JR;rw[if_pos ⟨hm,q1⟩,hX]
  have call:∀G,Ts Zn 8 G (J pv (H l) cv) l->Zc az T 134 #[aa #[D t P.r,D t P.n,J pv (H l) cv],aa #[D t (XZ b 1:Nat),D t (XZ b 5:Nat)]] G fun v' h'=>Cv G.size h' v' P l X/\Zf G.size G h':=fun G sG=>by
   rw[hX];exact TX T G P _ l _ sG (by omega)
  clear hX;have d1:¬d=1:=by omega
  have d5:¬d=5:=by omega
  have rO:=sb0;simp -implicitDefEqProofs only[go_sem,k9,c0];refine VS.mono (N:=fun F' g'=>Zf h0.size h0 g'/\F' 4=al (Q ⟨h.size+1,0,O⟩)/\F' 8=D t (YT P l X)/\∃A p1 c1,h0.size<=A/\F' 6=al (Q ⟨A,0,O⟩)/\g'[A]? = Q (K (Y0 (if YT P l X=0 then X else ⟨0,0⟩) (J p1 (if YT P l X=0 then l else []).length c1)).toArray 119)/\JD h0.size 168 Zn 8 g' (J p1 (if YT P l X=0 then l else []).length c1) (if YT P l X=0 then l else [])) ?_ ?_ (fun _ _ _ h=>h) (fun _ _ h=>h)
  .refine VS.w (h0.size) [] (.q 0 (.q 1 (.q 2 (.q 4 (.q 5 (.or 3 (.or 6 (.q 7 (.or 8 (.q 9 (.q 10 (.q 11 (.q 12 (.s 13 (.s 14 (.q 15 (.q 16 .nil)))))))) (.s 13 (.s 8 (.q 9 (.q 10 (.q 11 (.q 12 (.s 14 (.q 15 (.q 16 .nil))))))))))) (.s 13 (.s 6 (.q 7 (.s 8 (.q 9 (.q 10 (.q 11 (.q 12 (.s 14 (.q 15 (.q 16 .nil)))))))))))) (.s 13 (.s 3 (.s 6 (.q 7 (.s 8 (.q 9 (.q 10 (.q 11 (.q 12 (.s 14 (.q 15 (.q 16 .nil)))))))))))))))))) mixed (by kernel_rfl) ?_;simp -implicitDefEqProofs only[go_sem,r0,k0,k9,d1,d5,c0,S]
   repeat' (first
     | with_reducible exact Zf.refl _ _
     | with_reducible exact Zf.push (by omega) _
     | (with_reducible refine (S9 T _ bb oo d _ _ _ b 1 (by first|exact rO|exact rO.Yb (Zf.push (R _) _)) hm (by omega) rfl (by omega)).pure ?_;simp -implicitDefEqProofs only[go_sem,r0,k0,c0,S])
     | (with_reducible refine (S9 T _ bb oo d _ _ _ b 5 (by first|exact rO|exact rO.Yb (Zf.push (R _) _)) hm (by omega) rfl (by omega)).pure ?_;simp -implicitDefEqProofs only[go_sem,r0,k0,c0,S])
     | with_reducible refine And.intro ?_ ?_)
   all_goals first
    | (refine (call h0 s0').use ?_
       rintro _ g1 ⟨⟨w1,w2,rfl,o1,o2⟩,b1⟩;obtain⟨p1,c1,rfl,_⟩:=o1.open;obtain⟨p2,c2,rfl,_⟩:=o2.open;generalize (if YT P l X=0 then X else ⟨0,0⟩)=Y at *;generalize (if YT P l X=0 then l else [])=L at *;generalize YT P l X=E at *;have s1:=b1.size;unfold Y0;simp -implicitDefEqProofs only[go_sem,b1];exact⟨_,_,_,s1,rfl,Zb,o1.push _⟩)
    | (refine (call (h0.push (K [D t 0,D t 0,J O 0 0].toArray 119)) (s0'.Yb (Zf.push (R _) _))).use ?_
       rintro _ g1 ⟨⟨w1,w2,rfl,o1,o2⟩,b1⟩;obtain⟨p1,c1,rfl,_⟩:=o1.open;obtain⟨p2,c2,rfl,_⟩:=o2.open;generalize (if YT P l X=0 then X else ⟨0,0⟩)=Y at *;generalize (if YT P l X=0 then l else [])=L at *;generalize YT P l X=E at *;have B1:Zf h0.size h0 g1:=(Zf.push (R _) _).trans (b1.mono (by simp));have xA:=b1.get (by simp) Zb;have yA:=fin g1 h0.size [D t Y.r,D t Y.n,J p1 (H L) c1] rfl rfl xA;have hz:=Za xA;unfold Y0;simp -implicitDefEqProofs only[go_sem,B1,yA,hz];exact⟨_,_,_,R _,rfl,ZE xA,(o1.Z3 (b:=h0.size) (by simp) _).mono (by simp)⟩)
  .rintro F' g' ⟨hB,f4,f8,A,p1,c1,hA,f6,xA,oA⟩;have z1:=hB.get (by omega) z0;have k1':=Za z1;have rA:rd g' ⟨A,0,O⟩ 3=_:=Zs xA rfl;generalize hY:(if YT P l X=0 then X else ⟨0,0⟩)=Y at *;generalize hL:(if YT P l X=0 then l else [])=L at *;generalize YT P l X=E at *;unfold Y0 at rA;have wz:=fin g' (h.size+1) [D t Y.r,D t Y.n,J p1 (H L) c1] rfl rfl z1;have bb':Zf h.size h (g'.setIfInBounds (h.size+1) (K [D t Y.r,D t Y.n,J p1 (H L) c1].toArray 119)):=(b0.trans (hB.mono (by omega))).Zj (by omega) _;by_cases q:E=0
   .rw[if_pos q]at e hY hL;simp -implicitDefEqProofs only[go_sem,f4,f6,f8,rA,wz,k1',q,e];refine⟨⟨Y,p1,(H L),c1,rfl,fun x hx=>?_⟩,bb'⟩
    cases hx
    exact⟨hY.symm,by rw[hL];exact (oA.Z3 (by omega) _).mono (by omega)⟩
   .rw[if_neg q]at e;simp -implicitDefEqProofs only[go_sem,f4,f6,f8,rA,wz,k1',q,e];exact⟨⟨Y,p1,(H L),c1,rfl,by simp⟩,bb'⟩
 have n9':¬(m:Int)=9:=by omega
 by_cases n33:m=33
 case neg=>
  have ZqF:¬(m:Int)=33:=by omega
  have e:JR ⟨P,l⟩ b=O:=by
   unfold JR;rw[if_neg (fun hn=>by omega),if_neg (fun hn=>by omega)]
  have wz:=fin h0 (h.size+1) [D t P.r,D t P.n,J pv (H l) cv] rfl rfl z0;simp -implicitDefEqProofs only[go_sem,n9',ZqF,e,r0,wz,k1];exact⟨⟨P,pv,(H l),cv,rfl,by simp⟩,b0.Zj (by omega) _⟩
 subst n33;have k33:((33:Nat):Int)=33:=rfl;clear n9';obtain⟨q',d',hv,hh⟩:=sb0.UM;simp only[Value.slice.injEq]at hv;obtain⟨rfl,_,rfl⟩:=hv;obtain⟨bb,oo,rfl,U9,YR⟩:=hh (by intro e;subst e;simp at hm);have c0:=YR 0 (by omega);rw[bf]at c0;by_cases q2:b.getD 0 0=2
 case neg=>
  have q2':¬((b.getD 0 0:Nat):Int)=2:=by omega
  have e:JR ⟨P,l⟩ b=O:=by
   unfold JR;rw[if_neg (fun hn=>by omega),if_neg (fun hn=>q2 hn.2)]
  have wz:=fin h0 (h.size+1) [D t P.r,D t P.n,J pv (H l) cv] rfl rfl z0;simp -implicitDefEqProofs only[go_sem,k33,c0,q2',e,r0,wz,k1];exact⟨⟨P,pv,(H l),cv,rfl,by simp⟩,b0.Zj (by omega) _⟩
 rw[q2]at c0;have e2:((2:Nat):Int)=2:=rfl;rw[e2]at c0;have d13:¬d=13:=by omega
 have d33:(33:Int)<=(d:Int):=by omega
 have s13:=fun c'=>TZ sb0 (k:=13) (by omega) hm c';simp -implicitDefEqProofs only[go_sem,k33,c0,d13,d33,S];refine (GW T h0 _ (b.drop 13) (s13 _) (by rw[av];omega)).use ?_;rintro _ g ⟨rfl,bg⟩;have sg:=bg.size;by_cases q3:Uu (b.drop 13)=0
 case neg=>
  have e:JR ⟨P,l⟩ b=O:=by
   unfold JR;rw[if_neg (fun hn=>by omega),if_pos ⟨hm,q2⟩,if_pos q3]
  rw[j7 _ q3];have zg:=bg.get k1 z0;have xg:=bg.get k0 x0;have rg:rd g ⟨h.size,0,O⟩ 3=Q [D t P.r,D t P.n,J pv (H l) cv]:=Zs xg rfl;have wz:=fin g (h.size+1) [D t P.r,D t P.n,J pv (H l) cv] rfl rfl zg;have ZqH:¬h.size=g.size:=by omega
  have C1:¬h.size+1=g.size:=by omega
  have rF:h.size+1<g.size:=by omega
  simp -implicitDefEqProofs only[go_sem,q3,e,rg,wz,ZqH,C1,rF];exact⟨⟨P,pv,(H l),cv,rfl,by simp⟩,((b0.trans (bg.mono (by omega))).Zj (by omega) _).Yx (by simp;omega) _⟩
 rw[cX _ q3,q3];obtain⟨X,hX⟩:∃X:Vt,X=rL (b.drop 13) ⟨XZ b 1,⟨XZ b 5,XZ b 9⟩,0,0,0,0,0⟩:=⟨_,rfl⟩
 have e:JR ⟨P,l⟩ b=if Xk P l X=0 then Q ⟨X.b,Ui l X⟩ else O:=by
  unfold JR;rw[if_neg (fun hn=>by omega),if_pos ⟨hm,q2⟩,if_neg (fun hn=>hn q3),<-hX];rw[show (⟨((XZ b 5:Nat):Int),((XZ b 9:Nat):Int)⟩:Ji)=X.b by rw[hX];rfl]
 have call:∀G,Ts Zn 8 G (J pv (H l) cv) l->Zc az T 136 #[aa #[D t P.r,D t P.n,J pv (H l) cv],aa #[D t (XZ b 1:Nat),D t (XZ b 5:Nat),D t (XZ b 9:Nat),D t (XZ (b.drop 13) 0:Nat),D t (XZ (b.drop 13) 4:Nat),D t (XZ (b.drop 13) 8:Nat),D t (XZ (b.drop 13) 12:Nat),D t (XZ (b.drop 13) 16:Nat)]] G fun v' h'=>fY G.size h' v' P l X/\Zf G.size G h':=fun G sG=>by
  rw[hX];exact Ms T G P _ l _ sG (by omega)
 clear hX;generalize XZ (b.drop 13) 0=y0 at *;generalize XZ (b.drop 13) 4=y4 at *;generalize XZ (b.drop 13) 8=y8 at *;generalize XZ (b.drop 13) 12=y12 at *;generalize XZ (b.drop 13) 16=y16 at *;obtain⟨h1,YX⟩:=ZD (g.push (K [D t (y0:Nat),D t (y4:Nat),D t (y8:Nat),D t (y12:Nat),D t (y16:Nat)].toArray 43):Hp);have e1:g.push (K #[Value.int t (y0:Nat),D t (y4:Nat),D t (y8:Nat),D t (y12:Nat),D t (y16:Nat)] 43)=h1:=YX.symm;simp -implicitDefEqProofs only[go_sem];rw[e1];have b1:Zf h0.size h0 h1:=by rw[YX];exact bg.Yx sg _
 have s1h:h1.size=g.size+1:=by rw[YX];simp
 have c1h:h1[g.size]? = Q (K [D t (y0:Nat),D t (y4:Nat),D t (y8:Nat),D t (y12:Nat),D t (y16:Nat)].toArray 43):=by rw[YX];exact Zb
 clear e1 YX;have x1:=b1.get k0 x0;have z1h:=b1.get k1 z0;have r1:rd h1 ⟨h.size,0,O⟩ 3=Q [D t P.r,D t P.n,J pv (H l) cv]:=Zs x1 rfl;have rc1:rd h1 ⟨g.size,0,O⟩ 5=Q [D t (y0:Nat),D t (y4:Nat),D t (y8:Nat),D t (y12:Nat),D t (y16:Nat)]:=Zs c1h rfl;have c0h:hc h1 ⟨bb,oo,O⟩=Q (D .u8 2):=by rw[b1.hc (by exact U9)];exact c0
 have k0h:h.size<h1.size:=by omega
 have kch:g.size<h1.size:=by omega
 have rO:=sb0.Yb b1;have s1':=s0'.Yb b1;have d1:¬d=1:=by omega
 have d5:¬d=5:=by omega
 have d9:¬d=9:=by omega
 have B1:Zf h.size h h1:=b0.trans (b1.mono (by omega));refine VS.mono (N:=fun F' g'=>Zf h1.size h1 g'/\F' 4=al (Q ⟨h.size+1,0,O⟩)/\F' 10=D t (Xk P l X)/\∃A p1 c1,h1.size<=A/\F' 11=al (Q ⟨A,0,O⟩)/\g'[A]? = Q (K (Y0 (if Xk P l X=0 then X.b else ⟨0,0⟩) (J p1 (if Xk P l X=0 then Ui l X else []).length c1)).toArray 119)/\JD h1.size 168 Zn 8 g' (J p1 (if Xk P l X=0 then Ui l X else []).length c1) (if Xk P l X=0 then Ui l X else [])) ?_ ?_ (fun _ _ _ h=>h) (fun _ _ h=>h)
 .refine VS.w (h1.size) [] (.q 0 (.q 1 (.q 2 (.q 4 (.q 5 (.q 7 (.q 8 (.q 11 (.or 3 (.or 6 (.or 9 (.q 10 (.q 12 (.or 13 (.q 14 (.q 15 (.q 16 (.s 17 (.s 18 (.q 19 .nil)))))) (.s 17 (.s 13 (.q 14 (.q 15 (.q 16 (.s 18 (.q 19 .nil)))))))))) (.s 17 (.s 9 (.q 10 (.q 12 (.s 13 (.q 14 (.q 15 (.q 16 (.s 18 (.q 19 .nil))))))))))) (.s 17 (.s 6 (.s 9 (.q 10 (.q 12 (.s 13 (.q 14 (.q 15 (.q 16 (.s 18 (.q 19 .nil)))))))))))) (.s 17 (.s 3 (.s 6 (.s 9 (.q 10 (.q 12 (.s 13 (.q 14 (.q 15 (.q 16 (.s 18 (.q 19 .nil))))))))))))))))))))) mixed (by kernel_rfl) ?_;simp -implicitDefEqProofs only[go_sem,r1,rc1,k0h,kch,k33,d1,d5,d9,c0h,S]
  repeat' (first
    | with_reducible exact Zf.refl _ _
    | with_reducible exact Zf.push (by omega) _
    | (with_reducible refine (S9 T _ bb oo d _ _ _ b 1 (by first|exact rO|exact rO.Yb (Zf.push (R _) _)) hm (by omega) rfl (by omega)).pure ?_;simp -implicitDefEqProofs only[go_sem,r1,rc1,k0h,kch,c0h,S])
    | (with_reducible refine (S9 T _ bb oo d _ _ _ b 5 (by first|exact rO|exact rO.Yb (Zf.push (R _) _)) hm (by omega) rfl (by omega)).pure ?_;simp -implicitDefEqProofs only[go_sem,r1,rc1,k0h,kch,c0h,S])
    | (with_reducible refine (S9 T _ bb oo d _ _ _ b 9 (by first|exact rO|exact rO.Yb (Zf.push (R _) _)) hm (by omega) rfl (by omega)).pure ?_;simp -implicitDefEqProofs only[go_sem,r1,rc1,k0h,kch,c0h,S])
    | with_reducible refine And.intro ?_ ?_)
  all_goals first
   | (refine (call h1 s1').use ?_
      rintro _ g1 ⟨⟨w1,rfl,o1⟩,b1⟩;obtain⟨p1,c1,rfl,_⟩:=o1.open;generalize (if Xk P l X=0 then X.b else ⟨0,0⟩)=Y at *;generalize (if Xk P l X=0 then Ui l X else [])=L at *;generalize Xk P l X=E at *;have s1:=b1.size;unfold Y0;simp -implicitDefEqProofs only[go_sem,b1];exact⟨_,_,_,s1,rfl,Zb,o1.push _⟩)
   | (refine (call (h1.push (K [D t 0,D t 0,J O 0 0].toArray 119)) (s1'.Yb (Zf.push (R _) _))).use ?_
      rintro _ g1 ⟨⟨w1,rfl,o1⟩,b1⟩;obtain⟨p1,c1,rfl,_⟩:=o1.open;generalize (if Xk P l X=0 then X.b else ⟨0,0⟩)=Y at *;generalize (if Xk P l X=0 then Ui l X else [])=L at *;generalize Xk P l X=E at *;have B1:Zf h1.size h1 g1:=(Zf.push (R _) _).trans (b1.mono (by simp));have xA:=b1.get (by simp) Zb;have yA:=fin g1 h1.size [D t Y.r,D t Y.n,J p1 (H L) c1] rfl rfl xA;have hz:=Za xA;unfold Y0;simp -implicitDefEqProofs only[go_sem,B1,yA,hz];exact⟨_,_,_,R _,rfl,ZE xA,(o1.Z3 (b:=h1.size) (by simp) _).mono (by simp)⟩)
 .rintro F' g' ⟨hB,f4,f8,A,p1,c1,hA,f6,xA,oA⟩;have z1:=hB.get (by omega) z1h;have k1':=Za z1;have rA:rd g' ⟨A,0,O⟩ 3=_:=Zs xA rfl;generalize hY:(if Xk P l X=0 then X.b else ⟨0,0⟩)=Y at *;generalize hL:(if Xk P l X=0 then Ui l X else [])=L at *;generalize Xk P l X=E at *;unfold Y0 at rA;have wz:=fin g' (h.size+1) [D t Y.r,D t Y.n,J p1 (H L) c1] rfl rfl z1;have bb':Zf h.size h (g'.setIfInBounds (h.size+1) (K [D t Y.r,D t Y.n,J p1 (H L) c1].toArray 119)):=(B1.trans (hB.mono (by omega))).Zj (by omega) _;by_cases q:E=0
  .rw[if_pos q]at e hY hL;simp -implicitDefEqProofs only[go_sem,f4,f6,f8,rA,wz,k1',q,e];refine⟨⟨Y,p1,(H L),c1,rfl,fun x hx=>?_⟩,bb'⟩
   cases hx
   exact⟨hY.symm,by rw[hL];exact (oA.Z3 (by omega) _).mono (by omega)⟩
  .rw[if_neg q]at e;simp -implicitDefEqProofs only[go_sem,f4,f6,f8,rA,wz,k1',q,e];exact⟨⟨Y,p1,(H L),c1,rfl,by simp⟩,bb'⟩
theorem cY{h:Hp}{bp op m c k n off m' c':Nat}{l:List Nat}(s:Bs h (J (Q ⟨bp,op,O⟩) m c) l)(hm:(H l)=m)(hk:k+n<=m)(ho:off=op+k)(Pv:m'=n):Bs h (J (Q ⟨bp,off,O⟩) m' c') ((l.drop k).take n):=by
 subst ho;subst Pv;have s1:=TZ s (k:=k) (by omega) hm c';have e:m-k=(l.drop k).length:=by rw[av];omega
 rw[e]at s1;exact s1.Pb (by rw[av];omega) c'
def Be(l:List Nat)(k:Nat):Nat:=1+l.getD k 0
def X4(l:List Nat)(a:V0)(k:Nat):Option (V0 × Nat):=
 if k<(H l)/\k+Be l k+4<=(H l)/\(SR ((l.drop k).take (Be l k))).take 4=(l.drop (k+Be l k)).take 4 then
  (JR a ((l.drop (k+1)).take (Be l k-1))).map fun x=>(x,k+(Be l k+4))
 else O
inductive Rec(l:List Nat):V0->Nat->V0->Nat->Prop
 | stop {a:V0} {k:Nat}:X4 l a k=O->Rec l a k a k
 | go {a a' r:V0} {k k' j:Nat}:X4 l a k=Q (a',k')->Rec l a' k' r j->Rec l a k r j
def Uj:V0:=⟨⟨0,0⟩,[]⟩
def rP(B:Nat)(h':Hp)(v':a4)(l:List Nat)(n:Int):Prop:=∃(r:V0) (k:Nat) (E:Int) (w:a4),v'=.tuple [aa (Y0 r.p w).toArray,D t k,D t E].toArray/\JD B 168 Zn 8 h' w r.l/\k<=(H l)/\(H r.l)<=k /\
 if Xu l n then E=0/\Rec l Uj 0 r k else E=5/\r=Uj/\k=0
theorem Bf{l:List Vt}(hs:Srt l)(v:Vt):(Ui l v).length<=(H l)+1:=by
 have:∀l:List Vt,(l.filter (fun x=>decide (x.ZA<v.ZA))).length+(l.filter (fun x=>decide (v.ZA<x.ZA))).length<=(H l):=by
  intro l
  induction l with
  | nil=>simp
  | cons x l ih=>
   simp only[List.filter_cons,aw];by_cases q1:x.ZA<v.ZA
   .rw[if_pos (by simpa using q1),if_neg L6,aw];omega
   .rw[if_neg (by simpa using q1)];by_cases q2:v.ZA<x.ZA
    .rw[if_pos (by simpa using q2),aw];omega
    .rw[if_neg (by simpa using q2)];omega
 have:=this l;unfold Ui;rw[U,aw];omega
theorem ES{a x:V0}{b:List Nat}(h:JR a b=Q x):(H x.l)<=(H a.l)+1:=by
 unfold JR at h;split at h
 .split at h
  .cases h;simp
  .cases h
 .split at h
  .split at h
   .cases h
   .split at h
    .rename_i q
     cases h
     have:X8 a.p a.l=0:=by
      unfold Xk at q;split at q
      .cases q
      .rename_i hn;simpa using hn
     exact Bf (ID this) _
    .cases h
  .cases h
set_option maxHeartbeats 2000000 in
theorem IW(h:Hp)(v:a4)(n:Int)(l:List Nat)(s:Bs h v l)(hl:(H l)<=140737488355328)(tk:Tk h):
  Zc az T 75 #[aa [v,D t n].toArray] h fun v' h'=>rP h.size h' v' l n/\Zf h.size h h':=by
 obtain⟨p,c,rfl,_⟩:=s.open;refine Zc.PX [_] Tryz.func75 ?_;unfold rP;simp -implicitDefEqProofs only[go_sem];obtain⟨h0,Jk⟩:=ZD ((h.push (K [J p (H l) c,D t n].toArray 114)).push (K [D t 0,D t 0,J O 0 0].toArray 119):Hp);have b0:Zf h.size h h0:=by rw[Jk];exact ((Zf.refl _ _).add _).add _
 have s0:h0.size=h.size+2:=by rw[Jk];simp
 have z0:h0[h.size+1]? = Q (K [D t 0,D t 0,J O 0 0].toArray 119):=by
  rw[Jk,W,if_pos Dq]
 have e0:(h.push (K #[Value.slice p (H l) c,D t n] 114)).push (K #[Value.int t 0,D t 0,J O 0 0] 119)=h0:=Jk.symm;rw[e0];clear e0 Jk;have fin:∀(G:Hp) (w:List a4),(H w)=3->w.all Yq=true->G[h.size+1]? = Q (K [D t 0,D t 0,J O 0 0].toArray 119)->wr G ⟨h.size+1,0,O⟩ w=Q (G.setIfInBounds (h.size+1) (K w.toArray 119)):=by
  intro G w h3 h1 hx;rw[Z2 (b:=h.size+1) hx 0 w,ZZ (by rw[h3];rfl),if_pos ⟨by rw[h3];simp,h1⟩]
 refine (QG T h0 _ n l (s.Yb b0) hl).use ?_;rintro _ h1 ⟨b1,o1⟩;have s1:=b1.size;have B1:Zf h.size h h1:=b0.trans (b1.mono gX);have z1:=b1.get gX z0;by_cases ok:Xu l n
 case neg=>
  rw[if_neg (show ¬((H l)<=100000/\0<=n/\n<=(H l)) from ok)]at o1;subst o1;have y2:=fin h1 [D t 0,D t 0,J O 0 0] rfl rfl z1;have ZL:h.size+1<h1.size:=gX;have Ys:¬h.size+1=h1.size:=gX;simp -implicitDefEqProofs only[go_sem,y2,Ys,ZL];refine⟨⟨Uj,0,5,J O 0 0,rfl,JD.nil _ _ _ _ _,bw _,R _,?_⟩,(B1.Zj gX _).Yx L6 _⟩;rw[if_neg ok];exact⟨rfl,rfl,rfl⟩
 rw[if_pos (show ((H l)<=100000/\0<=n/\n<=(H l)) from ok)]at o1;obtain⟨w,rfl,o1⟩:=o1;obtain⟨pw,cw,rfl,hcw⟩:=o1.open;have l1:=ok.1;obtain⟨h2,WT⟩:=ZD ((h1.push (K [J pw (H l) cw,D t n].toArray 114)).push (K [D t 0,D t 0,J O 0 0].toArray 119):Hp);have e2:(h1.push (K #[Value.slice pw (H l) cw,D t n] 114)).push (K #[Value.int t 0,D t 0,J O 0 0] 119)=h2:=WT.symm;simp -implicitDefEqProofs only[go_sem];rw[e2];have b2:Zf h1.size h1 h2:=by rw[WT];exact ((Zf.refl _ _).add _).add _
 have s2:h2.size=h1.size+2:=by rw[WT];simp
 have t2:h2[h1.size]? = Q (K [J pw (H l) cw,D t n].toArray 114):=by
  rw[WT,W,if_neg Dq,Zb]
 have a2:h2[h1.size+1]? = Q (K [D t 0,D t 0,J O 0 0].toArray 119):=by
  rw[WT,W,if_pos Dq]
 clear e2 WT;have z2:=b2.get gX z1;obtain⟨A,hA⟩:=ZD (h1.size+1);rw[<-hA]at a2 ⊢;have sw:=o1.bs.Yb b2;have B2:Zf h.size h h2:=B1.trans (b2.mono gX);have tk2:Tk h2:=tk.JT B2;have blo:=o1.Zy.ZQ;refine VS.Z9 (fun F g=>Zf A h2 g/\F 2=al (Q ⟨h.size+1,0,O⟩)/\F 5=al (Q ⟨h1.size,0,O⟩)/\F 7=al (Q ⟨A,0,O⟩)/\∃(k:Nat) (a:V0) (p1:Option Addr) (c1:Nat),k<=(H l)/\F 8=D t k/\g[A]? = Q (K (Y0 a.p (J p1 (H a.l) c1)).toArray 119)/\JD (A+1) 168 Zn 8 g (J p1 (H a.l) c1) a.l/\(H a.l)<=k/\∀r j,Rec l a k r j->Rec l Uj 0 r j)
  (fun F _=>(H l)-(vi (F 8)).toNat) rfl ⟨Zf.refl _ _,rfl,rfl,rfl,0,Uj,O,0,bw _,rfl,a2,JD.nil _ _ _ _ _,bw _,fun _ _ h=>h⟩ ?_
 rintro F g ⟨hg,f2,f5,f7,k,a,p1,c1,hk,f8,xa,oa,hal,Me⟩;have tg:=hg.get gX t2;have zg:=hg.get gX z2;have hzA:=Za xa;have fact:∀G,Zf g.size g G->V.hc G ⟨h1.size,0,O⟩=Q (J pw (H l) cw)/\rd G ⟨A,0,O⟩ 3=Q [D t a.p.r,D t a.p.n,J p1 (H a.l) c1] /\
   wr G ⟨h.size+1,0,O⟩ [D t a.p.r,D t a.p.n,J p1 (H a.l) c1]=Q (G.setIfInBounds (h.size+1) (K [D t a.p.r,D t a.p.n,J p1 (H a.l) c1].toArray 119))/\h.size+1<G.size/\Zf A h2 G /\
   G[A]? = Q (K (Y0 a.p (J p1 (H a.l) c1)).toArray 119)/\JD (A+1) 168 Zn 8 G (J p1 (H a.l) c1) a.l/\Bs G (J pw (H l) cw) l:=by
  intro G hG;have tG:=hG.get gX tg;have zG:=hG.get gX zg;have xG:=hG.get gX xa;have bG:Zf A h2 G:=hg.trans (hG.mono gX);exact⟨by rw[Zg tG];rfl,Zs xG rfl,fin G _ rfl rfl zG,Za zG,bG,xG,oa.Yb hG (R _),o1.bs.Yb (b2.trans (bG.mono gX))⟩
 have done:∀G,Zf g.size g G->X4 l a k=O->(∃(r:V0) (k':Nat) (E:Int) (w:a4),Value.tuple [aa (Y0 a.p (J p1 (H a.l) c1)).toArray,D t (k:Nat),D t 0].toArray=.tuple [aa (Y0 r.p w).toArray,D t (k':Nat),D t E].toArray/\JD h.size 168 Zn 8 (G.setIfInBounds (h.size+1) (K [D t a.p.r,D t a.p.n,J p1 (H a.l) c1].toArray 119)) w r.l/\k'<=(H l)/\(H r.l)<=k'/\if Xu l n then E=0/\Rec l Uj 0 r k' else E=5/\r=Uj/\k'=0)/\Zf h.size h (G.setIfInBounds (h.size+1) (K [D t a.p.r,D t a.p.n,J p1 (H a.l) c1].toArray 119)):=by
  intro G hG e;obtain⟨_,_,_,_,bG,_,oG,_⟩:=fact G hG;refine⟨⟨a,k,0,_,rfl,(oG.Z3 gX _).mono gX,hk,hal,?_⟩,(B2.trans (bG.mono gX)).Zj gX _⟩;rw[if_pos ok];exact⟨rfl,Me _ _ (.stop e)⟩
 obtain⟨rt,ra,wf,hlz,_,_,_,swg⟩:=fact g (Zf.refl _ _);by_cases ZL:k<(H l)
 case neg=>
  have ZW:¬(k:Int)<(H l):=gX;have e:X4 l a k=O:=by unfold X4;rw[if_neg (fun hn=>ZL hn.1)]
  simp -implicitDefEqProofs only[go_sem,f2,f5,f7,f8,rt,ZW,ra,wf,hlz];exact done g (Zf.refl _ _) e
 have ZW:(k:Int)<(H l):=gX;obtain⟨q',d',hv,hh⟩:=swg.UM;simp only[Value.slice.injEq,true_and]at hv;obtain⟨rfl,rfl⟩:=hv;obtain⟨bx,ox,rfl,hbx,YR⟩:=hh (by intro e;subst e;simp at ZL);have rx:=YR k ZL;have hx:=ZT swg.byte k;obtain⟨N,hN⟩:=ZD (Be l k);have hN':N=1+l.getD k 0:=hN;have e1:(1:Int)+((l.getD k 0:Nat):Int)=(N:Int):=gX;have e2:(N:Int)+4=((N+4:Nat):Int):=gX;have d1:¬cw=k:=gX;have n0:(0:Int)<(((H l)-k:Nat):Int):=gX;have n1:(0:Int)<=(k:Int):=gX;have n2:(k:Int)<=((H l):Int):=gX;by_cases H7:(H l)-k<N+4
 case pos=>
  have Zdu:(((H l)-k:Nat):Int)<((N+4:Nat):Int):=gX;have e:X4 l a k=O:=by unfold X4;rw[<-hN,if_neg (fun hn=>by omega)]
  simp -implicitDefEqProofs only[go_sem,f2,f5,f7,f8,rt,ZW,ra,wf,hlz,rx,e1,e2,d1,n0,n1,n2,Zdu,S];exact done g (Zf.refl _ _) e
 have Zdu:¬(((H l)-k:Nat):Int)<((N+4:Nat):Int):=gX;have n3:(0:Int)<=(N:Int):=gX;have n4:(N:Int)<=((cw-k:Nat):Int):=gX;simp -implicitDefEqProofs only[go_sem,f2,f5,f7,f8,rt,ZW,rx,e1,e2,d1,n0,n1,n2,n3,n4,Zdu,S];have sN:Bs g (J (Q ⟨bx,ox+k,O⟩) N (cw-k)) ((l.drop k).take N):=cY swg rfl gX rfl rfl;have Bg:Zf h.size h g:=B2.trans (hg.mono gX);refine (Fi T g _ _ sN (tk.JT Bg)).use ?_;rintro _ g1 ⟨⟨w5,rfl,o5⟩,b5⟩;have e0:Oh ((l.drop k).take N).length=0:=by unfold Oh;rw[aI,av,if_neg gX]
 rw[e0,if_pos rfl]at o5;rw[e0];have ml:=JY ((l.drop k).take N);obtain⟨M,hM⟩:=ZD (SR ((l.drop k).take N));rw[<-hM]at o5 ml;obtain⟨p5,c5,rfl,hc5⟩:=o5.open;have sM:=o5.bs;obtain⟨rt1,ra1,wf1,ZqJ,bA1,xA1,oA1,sw1⟩:=fact g1 b5;have s5:=b5.size;have h4:(4:Int)<=(c5:Int):=gX;have n5:((N+4:Nat):Int)<=((cw-k:Nat):Int):=gX;have n6:(N:Int)<=((N+4:Nat):Int):=gX;have n7:(0:Int)<=((N+4:Nat):Int):=gX;have d2:¬cw-k=N:=gX;have hMd:Bs g1 (J p5 4 c5) (M.take 4):=sM.Pb gX c5;have hRd:Bs g1 (J (Q ⟨bx,ox+k+N,O⟩) (N+4-N) (cw-k-N)) ((l.drop (k+N)).take 4):=cY sw1 rfl gX gX gX;simp -implicitDefEqProofs only[go_sem,f2,f5,f7,f8];refine VS.w (g1.size) [] (.q 0 (.q 1 (.q 2 (.q 3 (.q 4 (.q 5 (.q 6 (.s 7 (.q 8 .nil))))))))) mixed po ?_;simp -implicitDefEqProofs only[go_sem,f2,f5,f7,f8,h4,e2,n3,n5,n6,n7,d2,S];refine (Ep T g1 _ _ (M.take 4) ((l.drop (k+N)).take 4) hMd hRd aac).pure ?_;have eR:(l.drop (k+N)).take 4=(l.drop (k+Be l k)).take 4:=by rw[<-hN]
 by_cases heq:M.take 4=(l.drop (k+N)).take 4
 case neg=>
  have hd:decide (M.take 4=(l.drop (k+N)).take 4)=false:=decide_eq_false heq;have e:X4 l a k=O:=by
   unfold X4;rw[<-hN,<-hM,if_neg (fun hn=>heq hn.2.2)]
  rw[hd];simp -implicitDefEqProofs only[go_sem,f2,f5,f7,f8,ra1,wf1,ZqJ];exact done g1 b5 e
 have hd:decide (M.take 4=(l.drop (k+N)).take 4)=true:=decide_eq_true heq;rw[hd];obtain⟨bd,bJ⟩:=ZD ((l.drop (k+1)).take (N-1));have Zbx:X4 l a k=(JR a bd).map fun x=>(x,k+(N+4)):=by
  unfold X4;rw[<-hN,<-hM,if_pos ⟨ZL,gX,heq⟩,bJ]
 have lbd:(H bd)=N-1:=by rw[bJ,aI,av];omega
 have sbd:Bs g1 (J (Q ⟨bx,ox+k+1,O⟩) (N-1) (cw-k-1)) bd:=by rw[bJ];exact cY sw1 rfl gX gX rfl
 have call:∀G,Zf g1.size g1 G->Zc az T 102 #[aa #[D t a.p.r,D t a.p.n,J p1 (H a.l) c1],J (Q ⟨bx,ox+k+1,O⟩) (N-1) (cw-k-1)] G fun v' h'=>ER G.size h' v' a bd/\Zf G.size G h':=fun G hG=>
  rN T G a.p p1 c1 a.l _ (N-1) (cw-k-1) bd (oA1.ts.Yb hG) (sbd.Yb hG) lbd gX gX gX
 have n8:(1:Int)<=(N:Int):=gX;have d3:¬cw-k=1:=gX;have q1:A<g1.size:=gX;have Zip:∀(G:Hp) (b:Nat) (z w:List a4),(H z)=3->(H w)=3->w.all Yq=true->G[b]? = Q (K z.toArray 119)->wr G ⟨b,0,O⟩ w=Q (G.setIfInBounds b (K w.toArray 119)):=by
  intro G b z w hz h3 h1 hx;rw[Z2 (b:=b) hx 0 w,ZZ (by rw[h3,hz]),if_pos ⟨by rw[h3,hz];simp,h1⟩]
 simp -implicitDefEqProofs only[go_sem,f2,f5,f7,f8];refine VS.mono (N:=fun F' g'=>Zf g1.size g1 g'/\F' 2=al (Q ⟨h.size+1,0,O⟩)/\F' 5=al (Q ⟨h1.size,0,O⟩)/\F' 7=al (Q ⟨A,0,O⟩)/\F' 8=D t k/\F' 10=D t N/\F' 14=am (JR a bd).isSome/\∃(A':Nat) (P:Ji) (p m:_) (c:Nat),g1.size<=A'/\F' 13=al (Q ⟨A',0,O⟩)/\g'[A']? = Q (K (Y0 P (J p m c)).toArray 119)/\∀x,JR a bd=Q x->P=x.p/\JD g1.size 168 Zn 8 g' (J p m c) x.l) ?_ ?_ (fun _ _ _ h=>h) (fun _ _ h=>h)
 .refine VS.w (g1.size) [] (.q 0 (.q 1 (.q 2 (.q 3 (.or 4 (.q 5 (.q 6 (.q 7 (.s 8 (.s 9 (.q 10 .nil)))))) (.s 8 (.s 4 (.q 5 (.q 6 (.q 7 (.s 9 (.q 10 .nil)))))))))))) mixed po ?_;simp -implicitDefEqProofs only[go_sem,f2,f5,f7,f8,ra1,q1,n3,n4,n8,d3,S];refine⟨?_,?_⟩
  .refine (call g1 (Zf.refl _ _)).use ?_;rintro _ g2 ⟨⟨P,p2,m2,c2,rfl,h2x⟩,b6⟩;have s6:=b6.size;unfold Y0;simp -implicitDefEqProofs only[go_sem,f2,f5,f7,f8,b6];exact⟨_,_,_,_,_,s6,rfl,Zb,fun x hx=>⟨(h2x x hx).1,(h2x x hx).2.push _⟩⟩
  .refine (call (g1.push (K [D t 0,D t 0,J O 0 0].toArray 119)) (Zf.push (R _) _)).use ?_;rintro _ g2 ⟨⟨P,p2,m2,c2,rfl,h2x⟩,b6⟩;have B6:Zf g1.size g1 g2:=(Zf.push (R _) _).trans (b6.mono Dq);have xA:=b6.get Dq Zb;have yA:=Zip g2 g1.size _ [D t P.r,D t P.n,J p2 m2 c2] rfl rfl rfl xA;have hz:=Za xA;unfold Y0;simp -implicitDefEqProofs only[go_sem,f2,f5,f7,f8,B6,yA,hz];exact⟨_,_,_,_,_,R _,rfl,ZE xA,fun x hx=>⟨(h2x x hx).1,((h2x x hx).2.Z3 (b:=g1.size) Dq _).mono Dq⟩⟩
 rintro F' g' ⟨hB,f2,f5,f7,f8,f10,f14,A',P,p2,m2,c2,hA',f13,xA',hx'⟩;have sB:=hB.size;have hgG:Zf g.size g g':=b5.trans (hB.mono s5);obtain⟨rt2,j8,wf2,ZqK,bA2,xA2,oA2,sw2⟩:=fact g' hgG
 cases Dn:JR a bd with
 | none=>
  have e:X4 l a k=O:=by rw[Zbx,Dn];rfl
  rw[Dn]at f14;simp -implicitDefEqProofs only[go_sem,f2,f5,f7,f8,f10,f14,j8,wf2,ZqK];exact done g' hgG e
 | some x=>
  obtain⟨rfl,ox2⟩:=hx' x Dn;obtain⟨p3,c3,e3,_⟩:=ox2.open;simp only[Value.slice.injEq]at e3;obtain⟨rfl,rfl,rfl⟩:=e3;have e:X4 l a k=Q (x,k+(N+4)):=by rw[Zbx,Dn];rfl
  have rA':rd g' ⟨A',0,O⟩ 3=Q [D t x.p.r,D t x.p.n,J p2 (H x.l) c2]:=Zs xA' rfl;have wA:=Zip g' A _ [D t x.p.r,D t x.p.n,J p2 (H x.l) c2] rfl rfl rfl xA2;have zA:=Za xA2;have e4:(k:Int)+((N+4:Nat):Int)=((k+(N+4):Nat):Int):=gX;have lx:=ES Dn;rw[Dn]at f14;simp -implicitDefEqProofs only[go_sem,f2,f5,f7,f8,f10,f13,f14,rA',wA,zA,e2,e4];refine⟨⟨bA2.Zj (R _) _,f2,f5,f7,k+(N+4),x,p2,c2,gX,rfl,ZE xA2,(ox2.Z3 gX _).mono gX,gX,fun r j hr=>Me r j (.go e hr)⟩,?_⟩;simp only[vi,Zk,↓reduceIte,f8];omega
def rQ(B:Nat)(h':Hp)(v':a4)(l:List Nat)(n:Int):Prop:=∃(r:V0) (k:Nat) (E:Int) (w:a4),v'=.tuple [aa [w,D t (if E=0 then (if (k:Int)<n then (k:Int) else n) else 0)].toArray,D t E].toArray/\Yd B 5 h' w (if E=0 then l.take k else [])/\k<=(H l) /\
 if Xu l n then E=0/\Rec l Uj 0 r k else E=5/\r=Uj/\k=0
theorem j9(h:Hp)(v:a4)(n:Int)(l:List Nat)(s:Bs h v l)(QQ:Sn v)(hl:(H l)<=140737488355328)(tk:Tk h):
  Zc az T 74 #[aa [v,D t n].toArray] h fun v' h'=>rQ h.size h' v' l n/\Zf h.size h h':=by
 obtain⟨p,c,rfl,_⟩:=s.open;have QQ:(H l)<=c:=QQ;refine Zc.PX [_] Tryz.func74 ?_;unfold rQ;simp -implicitDefEqProofs only[go_sem];obtain⟨h0,Jk⟩:=ZD ((h.push (K [J p (H l) c,D t n].toArray 114)).push (K [J O 0 0,D t 0].toArray 114):Hp);have b0:Zf h.size h h0:=by rw[Jk];exact ((Zf.refl _ _).add _).add _
 have s0:h0.size=h.size+2:=by rw[Jk];simp
 have t0:h0[h.size]? = Q (K [J p (H l) c,D t n].toArray 114):=by
  rw[Jk,W,if_neg Dq,Zb]
 have z0:h0[h.size+1]? = Q (K [J O 0 0,D t 0].toArray 114):=by
  rw[Jk,W,if_pos Dq]
 have e0:(h.push (K #[Value.slice p (H l) c,D t n] 114)).push (K #[Value.slice O 0 0,D t 0] 114)=h0:=Jk.symm;have uU:(h.push (K [Value.slice p (H l) c,D t n].toArray 114)).push (K [Value.slice O 0 0,D t 0].toArray 114)=h0:=Jk.symm
 first|rw[e0]|rw[uU]
 clear e0 uU Jk;refine (IW T h0 _ n l (s.Yb b0) hl (tk.JT b0)).use ?_;rintro _ h1 ⟨⟨r,k,E,w1,rfl,o1,hk,hr,q⟩,b1⟩;have s1:=b1.size;obtain⟨p1,c1,rfl,_⟩:=o1.open;unfold Y0;obtain⟨h2,WT⟩:=ZD (h1.push (K [D t r.p.r,D t r.p.n,J p1 (H r.l) c1].toArray 119):Hp);have b2:Zf h1.size h1 h2:=by rw[WT];exact Zf.push (R _) _
 have s2:h2.size=h1.size+1:=by rw[WT];simp
 have B2:Zf h.size h h2:=b0.trans ((b1.mono gX).trans (b2.mono gX));have t2:=b2.get gX (b1.get gX t0);have z2:=b2.get gX (b1.get gX z0);have y2:=Z2 z2 0;have Mh:h.size+1<h2.size:=gX;have eh2:h1.push (K #[Value.int t r.p.r,D t r.p.n,J p1 (H r.l) c1] 119)=h2:=WT.symm;clear WT;by_cases ok:Xu l n
 case neg=>
  have q0:=q;rw[if_neg ok]at q;obtain⟨rfl,rfl,rfl⟩:=q;have z1:=b1.get gX z0;have y1:=Z2 z1 0;have Ys:¬h.size+1=h1.size:=gX;have rF:h.size+1<h1.size:=gX;have B1:Zf h.size h h1:=b0.trans (b1.mono gX);simp -implicitDefEqProofs only[go_sem,y1,Ys,rF];refine⟨⟨Uj,0,5,J O 0 0,rfl,Yd.nil _ _ _,bw _,q0⟩,?_⟩;exact (B1.Zj gX _).Yx L6 _
 have q0:=q;rw[if_pos ok]at q;obtain⟨rfl,q⟩:=q;have l1:=ok.1;have r2:V.hc h2 ⟨h.size,0,O⟩=Q (J p (H l) c):=by rw[Zg t2];rfl
 have n2:V.hc h2 ⟨h.size,1,O⟩=Q (D t n):=by rw[Zg t2];rfl
 have k1:(0:Int)<=(k:Int):=gX;have k2:(k:Int)<=(c:Int):=gX;have q1:h.size<h2.size:=gX;simp -implicitDefEqProofs only[go_sem];rw[eh2];refine VS.w (h2.size) [10,11] (.q 0 (.q 1 (.q 2 (.q 3 (.q 5 (.q 6 (.q 7 (.q 8 (.s 4 (.q 9 (.w 10 (.w 11 .nil)))))))))))) mixed po ?_;simp -implicitDefEqProofs only[go_sem,r2,n2,k1,k2,q1,S];refine (Il T h2 _ (l.take k) ((s.Yb B2).Pb hk c) aac).use ?_;rintro w3 h3 ⟨o3,b3⟩;obtain⟨p3,c3,rfl,_⟩:=o3.open;have s3:=b3.size;have z3:=b3.get gX z2;have jq:h.size+1<h3.size:=gX;have y3:=Z2 z3 0;simp -implicitDefEqProofs only[go_sem,b3,y3,jq];refine⟨⟨r,k,0,_,rfl,?_,hk,q0⟩,(B2.trans (b3.mono gX)).Zj gX _⟩;exact (o3.Z3 gX _).mono gX
def Qm(rc:List Nat):List Nat:=fU (Wk (rc.getD 0 0)) (rc.drop 1)
def XQ(l:List Nat)(i:Nat):Int:=((XZ l (4*i):Nat):Int)
def kf(PL:List Nat)(now:Int):Int:=Nr ((PL.take 22).getD 0 0:Nat) ((PL.take 22).getD 1 0:Nat) (XZ (PL.take 22) 2:Nat) (XQ (PL.drop 22) 0) (XQ (PL.drop 22) 1) (XQ (PL.drop 22) 2) (XQ (PL.drop 22) 3) (XQ (PL.drop 22) 4) now
def rR(PL:List Nat)(X:Nat)(now:Int):Int:=if XQ (PL.drop 22) 0≠0/\XQ (PL.drop 22) 1≠(X:Nat) then 11 else kf PL now
def fZ(PL:List Nat)(X:Nat)(now:Int):Int:=if Uu (PL.drop 22)≠0 then Uu (PL.drop 22) else rR PL X now
def ga(PL:List Nat)(X:Nat)(now:Int):Int:=if Qz T2 (PL.take 22)≠0 then Qz T2 (PL.take 22) else fZ PL X now
def gh(PL:List Nat)(X:Nat)(now:Int):Int:=if (H PL)≠42 then 3 else ga PL X now
def Bi(te:Int)(PL:List Nat)(X:Nat)(now:Int):Int:=if te≠0 then te else gh PL X now
def XF(rc:List Nat)(now:Int):Int:=
 if (H rc)=0 then 13 else if J8 (rc.getD 0 0:Nat)≠0 then J8 (rc.getD 0 0:Nat) else
 Bi (TY (Wk (rc.getD 0 0)) 0 0 J6 (rc.drop 1)) (Qm rc) (rc.getD 0 0) now
def Bj(rc:List Nat)(now:Int):List a4:=if XF rc now=0 then QR (XQ ((Qm rc).drop 22) 0) (XQ ((Qm rc).drop 22) 1) (XQ ((Qm rc).drop 22) 2) (XQ ((Qm rc).drop 22) 3) (XQ ((Qm rc).drop 22) 4) else LS
theorem cZ{key l:List Nat}(h:Qz key l=0):EP key l=[D t (l.getD 0 0:Nat),D t (l.getD 1 0:Nat),D t (XZ l 2:Nat)]:=by unfold EP;rw[if_pos h];rfl
theorem kh{key l:List Nat}(h:¬Qz key l=0):EP key l=[D t 0,D t 0,D t 0]:=by unfold EP;rw[if_neg h];rfl
theorem ki{l:List Nat}(h:Uu l=0):Iq l=[D t (XQ l 0),D t (XQ l 1),D t (XQ l 2),D t (XQ l 3),D t (XQ l 4)]:=by unfold Iq;rw[if_pos h];rfl
theorem kj{l:List Nat}(h:¬Uu l=0):Iq l=[D t 0,D t 0,D t 0,D t 0,D t 0]:=by unfold Iq;rw[if_neg h];rfl
theorem QK{rc:List Nat}{now:Int}(h:¬XF rc now=0):Bj rc now=[D t 0,D t 0,D t 0,D t 0,D t 0]:=by unfold Bj;rw[if_neg h];rfl
theorem ko{rc:List Nat}{now:Int}(h:XF rc now=0):Bj rc now=[D t (XQ ((Qm rc).drop 22) 0),D t (XQ ((Qm rc).drop 22) 1),D t (XQ ((Qm rc).drop 22) 2),D t (XQ ((Qm rc).drop 22) 3),D t (XQ ((Qm rc).drop 22) 4)]:=by unfold Bj;rw[if_pos h];rfl
set_option maxHeartbeats 2000000 in
theorem rS(h:Hp)(v:a4)(rc:List Nat)(now:Int)(s:Bs h v rc)(QQ:Sn v)(uW:(H rc)<=140737488355328)(tk:Tk h)(tn:Dl 0 niv Sh h):
  Zc az T 14 #[v,D t now] h fun v' h'=>v'=.tuple [aa (Bj rc now).toArray,D t (XF rc now)].toArray/\Zf h.size h h':=by
 obtain⟨p,c,rfl,_⟩:=s.open;have At:(H rc)<=c:=QQ;refine Zc.PX [_,_] Tryz.func14 ?_;simp -implicitDefEqProofs only[go_sem];obtain⟨h0,Jk⟩:=ZD (h.push (K [D t 0,D t 0,D t 0,D t 0,D t 0].toArray 43):Hp);have b0:Zf h.size h h0:=by rw[Jk];exact (Zf.refl _ _).add _
 have s0:h0.size=h.size+1:=by rw[Jk];simp
 have z0:h0[h.size]? = Q (K [D t 0,D t 0,D t 0,D t 0,D t 0].toArray 43):=by rw[Jk];exact Zb
 have e0:h.push (K #[Value.int t 0,D t 0,D t 0,D t 0,D t 0] 43)=h0:=Jk.symm;have uU:h.push (K [Value.int t 0,D t 0,D t 0,D t 0,D t 0].toArray 43)=h0:=Jk.symm
 first|rw[e0]|rw[uU]
 clear e0 uU Jk;have fin:∀(G:Hp) (w:List a4),(H w)=5->w.all Yq=true->G[h.size]? = Q (K [D t 0,D t 0,D t 0,D t 0,D t 0].toArray 43)->wr G ⟨h.size,0,O⟩ w=Q (G.setIfInBounds h.size (K w.toArray 43)):=by
  intro G w h3 h1 hx;rw[Z2 (b:=h.size) hx 0 w,ZZ (by rw[h3];rfl),if_pos ⟨by rw[h3];simp,h1⟩]
 by_cases l0:(H rc)=0
 case pos=>
  have l0':((H rc):Int)=0:=by omega
  have ee:=show XF rc now=13 by unfold XF;rw[if_pos l0]
  rw[QK (by rw[ee];exact (by decide)),ee];have yz:=fin h0 [D t 0,D t 0,D t 0,D t 0,D t 0] rfl rfl z0;have hz:=Za z0;simp -implicitDefEqProofs only[go_sem,l0',yz,hz]
  try exact (b0).Zj (R _) _
 have l0':¬((H rc):Int)=0:=by omega
 have n0:(0:Int)<((H rc):Int):=by omega
 have n1:(1:Int)<=((H rc):Int):=by omega
 obtain⟨q',d',hv,hh⟩:=(s.Yb b0).UM;simp only[Value.slice.injEq,true_and]at hv;obtain⟨rfl,rfl⟩:=hv;obtain⟨bb,oo,rfl,U9,YR⟩:=hh (by intro e;subst e;simp at l0);have x0:=YR 0 (by omega);rw[bf]at x0;have So:=ZT s.byte 0;obtain⟨X,hX⟩:=ZD (rc.getD 0 0);rw[<-hX]at x0 So;obtain⟨PL,hPL⟩:=ZD (fU (Wk X) (rc.drop 1));obtain⟨te,hte⟩:=ZD (TY (Wk X) 0 0 J6 (rc.drop 1));have ePL:Qm rc=PL:=by rw[hPL,hX];rfl
 have E00:XF rc now=if J8 (X:Nat)≠0 then J8 (X:Nat) else Bi te PL X now:=by
  unfold XF;rw[if_neg l0,<-hX,<-hte,ePL]
 simp -implicitDefEqProofs only[go_sem,l0',n0,x0];refine (IT T h0 _ (tk.JT b0)).use ?_;rintro _ h1 ⟨⟨w1,rfl,k1,o1,f1⟩,b1⟩;have B1:=b0.trans (b1.mono b0.size);have s1:=b1.size;have z1:=b1.get (by omega) z0;by_cases ke:J8 (X:Nat)=0
 case neg=>
  generalize J8 (X:Nat)=KE at *;have ee:=show XF rc now=KE by rw[E00,if_pos ke]
  rw[QK (by rw[ee];exact ke),ee];have yz:=fin h1 [D t 0,D t 0,D t 0,D t 0,D t 0] rfl rfl z1;have hz:=Za z1;simp -implicitDefEqProofs only[go_sem,ke,yz,hz]
  try exact (B1).Zj (R _) _
 have E0:XF rc now=Bi te PL X now:=by rw[E00,if_neg (fun hn=>hn ke)]
 rw[ke,if_pos rfl,S]at o1;rw[ke];have x7:X<=7:=by unfold J8 at ke;split at ke<;>omega
 obtain⟨p1,c1,rfl,UX⟩:=o1.open;have lk:=Lq X;obtain⟨P1,hP1⟩:=ZD (if c=1 then Q (⟨bb,oo,O⟩:Addr) else Q ⟨bb,oo+1,O⟩);have sD:Bs h1 (J P1 ((H rc)-1) (c-1)) (rc.drop 1):=by
  have sb1:=(s.Yb b0).Yb b1;by_cases hc:c=1
  .have qa:(H rc)=1:=by omega
   have hd:rc.drop 1=[]:=List.drop_eq_nil_of_le (by omega);rw[hd,qa,hc];exact⟨(Own.HX 0 0 1 h1 P1).sl,fun x hx=>by cases hx⟩
  .rw[hP1,if_neg hc];exact TZ sb1 (k:=1) (by omega) rfl _
 have ZqP:Sn (J P1 ((H rc)-1) (c-1)):=by show (H rc)-1<=c-1;omega
 have htk:Zc az T 24 #[aa #[J p1 (Wk X).length c1,D t 0,D t 0,am false,am false,am false,am false,am false,am false,am false,am false],J P1 ((H rc)-1) (c-1)] h1 fun v' h'=>EL h1.size h' v' (Wk X) 0 0 J6 (rc.drop 1)/\Zf h1.size h1 h':=CX T h1 _ _ (Wk X) (rc.drop 1) 0 0 J6 rfl o1 sD k1 ZqP;simp -implicitDefEqProofs only[go_sem,n1]
 try rw[<-hP1]
 refine htk.use ?_;rintro _ h2 ⟨⟨cw,w2,rfl,⟨w3,rfl,o3⟩,o2⟩,b2⟩;rw[<-hte]at o2 o3 ⊢;rw[<-hPL]at o2;have B2:=B1.trans (b2.mono B1.size);have s2:=b2.size;have z2:=b2.get (by omega) z1;obtain⟨CC,hCC⟩:=ZD (Z0 w3 (if te=0 then 0 else 0) (if te=0 then max 0 (((VL (rc.drop 1):Nat):Int)+1) else 0) (if te=0 then Lk 0 J6 (VL (rc.drop 1)) else J6));obtain⟨p3,c3,rfl,_⟩:=o3.open;have lsn:(if te=0 then Lk 0 J6 (VL (rc.drop 1)) else J6).length=8:=by
  split
  .exact VD _ _
  .rfl
 have yQ:(H CC)=11:=by rw[hCC];exact Yu _ _ _ _ lsn
 have hCo:CC.all Yq=true:=by rw[hCC];exact QI _ _ _
 have hCp:YJ [Value.slice O 0 0,D t 0,D t 0,am false,am false,am false,am false,am false,am false,am false,am false] 0 CC=CC:=ZZ (by rw[yQ];rfl);have Zdw:(H CC)<=11:=by omega
 rw[<-hCC];obtain⟨h3,vj⟩:=ZD (h2.push (K CC.toArray 76):Hp);have b3:Zf h2.size h2 h3:=by rw[vj];exact Zf.push (R _) _
 have s3:h3.size=h2.size+1:=by rw[vj];simp
 have z3:=b3.get (by omega) z2;have B3:=B2.trans (b3.mono B2.size);have o23:=o2.Yb b3 (R _);obtain⟨p2,c2,rfl,MR⟩:=o2.open;have yz2:=fin h2 [D t 0,D t 0,D t 0,D t 0,D t 0] rfl rfl z2;have rG:¬h.size=h2.size:=by omega
 have Mh:h.size<h2.size:=by omega
 by_cases te0:te=0
 case neg=>
  have ee:XF rc now=te:=by rw[E0];unfold Bi;rw[if_pos te0]
  rw[QK (by rw[ee];exact te0),ee];simp -implicitDefEqProofs only[go_sem,yQ,hCo,hCp,Zdw,te0,yz2,rG,Mh]
  try exact (B2.Zj (R _) _).Yx (by simp;omega) _
 have E1:XF rc now=gh PL X now:=by rw[E0];unfold Bi;rw[if_neg (fun hn=>hn te0)]
 rw[if_pos te0]at o23 MR
 try simp only[if_pos te0]
 by_cases l42:(H PL)=42
 case neg=>
  have yR:¬((H PL):Int)=42:=by omega
  have ee:XF rc now=3:=by rw[E1];unfold gh;rw[if_pos l42]
  rw[QK (by rw[ee];decide),ee];simp -implicitDefEqProofs only[go_sem,yQ,hCo,hCp,Zdw,te0,yR,yz2,rG,Mh]
  try exact (B2.Zj (R _) _).Yx (by simp;omega) _
 have yR:((H PL):Int)=42:=by omega
 have E2:XF rc now=ga PL X now:=by rw[E1];unfold gh;rw[if_neg (fun hn=>hn l42)]
 simp -implicitDefEqProofs only[go_sem,yQ,hCo,hCp,Zdw,te0,yR];rw[<-vj];clear vj hCC o2 o3 hte;have n22:(22:Int)<=(c2:Int):=by omega
 have sPL:=o23.bs;have sT:Bs h3 (J p2 22 c2) (PL.take 22):=sPL.Pb (by omega) c2;have cT:Sn (J p2 22 c2):=by show 22<=c2;omega
 obtain⟨PE,hPE⟩:=ZD (Qz T2 (PL.take 22));obtain⟨tc,tr,tu,hT,ZqU⟩:∃tc tr tu:Int,EP T2 (PL.take 22)=[D t tc,D t tr,D t tu]/\(PE=0->tc=((PL.take 22).getD 0 0:Nat)/\tr=((PL.take 22).getD 1 0:Nat)/\tu=(XZ (PL.take 22) 2:Nat)):=by
  rw[hPE];by_cases q:Qz T2 (PL.take 22)=0
  .exact⟨_,_,_,cZ q,fun _=>⟨rfl,rfl,rfl⟩⟩
  .exact⟨_,_,_,kh q,fun hn=>(q hn).elim⟩
 have tk3:=tk.JT B3
 try simp -implicitDefEqProofs only[go_sem,yR]
 refine VS.mono (N:=fun F' g'=>Zf h3.size h3 g'/\F' 0=J (Q ⟨bb,oo,O⟩) (H rc) c/\F' 1=D t now/\F' 4=al (Q ⟨h.size,0,O⟩)/\F' 9=J p2 (H PL) c2/\F' 7=D t PE/\∃A,h3.size<=A/\F' 10=al (Q ⟨A,0,O⟩)/\g'[A]? = Q (K [D t tc,D t tr,D t tu].toArray 80)) ?_ ?_ (fun _ _ _ h=>h) (fun _ _ h=>h)
 .refine VS.w (h3.size) [] (.q 1 (.q 2 (.or 0 (.or 3 (.q 4 (.q 5 (.q 6 (.s 7 (.s 8 (.q 9 .nil)))))) (.s 7 (.s 3 (.q 4 (.q 5 (.q 6 (.s 8 (.q 9 .nil)))))))) (.s 7 (.s 0 (.s 3 (.q 4 (.q 5 (.q 6 (.s 8 (.q 9 .nil))))))))))) mixed (by kernel_rfl) ?_;simp -implicitDefEqProofs only[go_sem,n22];have zt:∀(G:Hp) (k:Nat) (w:List a4),(H w)=3->w.all Yq=true->G[k]? = Q (K [D t 0,D t 0,D t 0].toArray 80)->wr G ⟨k,0,O⟩ w=Q (G.setIfInBounds k (K w.toArray 80)):=by
   intro G k w h3 h1 hx;rw[Z2 (b:=k) hx 0 w,ZZ (by rw[h3];rfl),if_pos ⟨by rw[h3];simp,h1⟩]
  refine⟨?_,?_⟩
  .refine (Mr T h3 tk3).use ?_;rintro w4 h4 ⟨⟨k4,o4⟩,b4⟩;have s4:=b4.size;simp -implicitDefEqProofs only[go_sem,b4,n22];refine⟨?_,?_⟩
   .refine (IR T h4 _ _ T2 (PL.take 22) o4 (sT.Yb b4) cT (tk3.JT b4)).use ?_;rintro _ h5 ⟨rfl,b5⟩;have s5:=b5.size;have rT:Zf h3.size h3 h5:=b4.trans (b5.mono s4);rw[hT,<-hPE];simp -implicitDefEqProofs only[go_sem,rT];exact⟨_,by omega,rfl,Zb⟩
   .have bp:Zf h4.size h4 (h4.push (K [D t 0,D t 0,D t 0].toArray 80)):=Zf.push (R _) _;have bp3:Zf h3.size h3 (h4.push (K [D t 0,D t 0,D t 0].toArray 80)):=b4.trans (bp.mono s4)
    first|refine⟨bp3,?_⟩|skip
    refine (IR T (h4.push (K [D t 0,D t 0,D t 0].toArray 80)) _ _ T2 (PL.take 22) (o4.Yb bp) ((sT.Yb b4).Yb bp) cT ((tk3.JT b4).JT bp)).use ?_;rintro _ h5 ⟨rfl,b5⟩;have s5:=b5.size;have rT:Zf h3.size h3 h5:=bp3.trans (b5.mono (by simp;omega));have xA:=b5.get (by simp) Zb;have yA:=zt h5 h4.size [D t tc,D t tr,D t tu] rfl rfl xA;have hz:=Za xA;rw[hT,<-hPE];simp -implicitDefEqProofs only[go_sem,rT,yA,hz]
    first
     | exact⟨rT.Zj (by omega) _,rT.Zj (by omega) _,_,by omega,rfl,ZE xA⟩
     | exact⟨rT.Zj (by omega) _,_,by omega,rfl,ZE xA⟩
     | exact⟨_,by omega,rfl,ZE xA⟩
  .have bp3:Zf h3.size h3 (h3.push (K [D t 0,D t 0,D t 0].toArray 80)):=Zf.push (R _) _
   first|refine⟨bp3,?_⟩|skip
   refine (Mr T (h3.push (K [D t 0,D t 0,D t 0].toArray 80)) (tk3.JT bp3)).use ?_;rintro w4 h4 ⟨⟨k4,o4⟩,b4⟩;have s4:=b4.size;have LX:Zf h3.size h3 h4:=bp3.trans (b4.mono (by simp));simp -implicitDefEqProofs only[go_sem,LX,n22];refine (IR T h4 _ _ T2 (PL.take 22) o4 (sT.Yb LX) cT (tk3.JT LX)).use ?_;rintro _ h5 ⟨rfl,b5⟩;have s5:=b5.size;have rT:Zf h3.size h3 h5:=LX.trans (b5.mono LX.size);have xA:=b5.get (by simp at s4;omega) (b4.get (by simp) Zb);have yA:=zt h5 h3.size [D t tc,D t tr,D t tu] rfl rfl xA;have hz:=Za xA;rw[hT,<-hPE];simp -implicitDefEqProofs only[go_sem,rT,yA,hz]
   first
    | exact⟨rT.Zj (by omega) _,rT.Zj (by omega) _,_,by omega,rfl,ZE xA⟩
    | exact⟨rT.Zj (by omega) _,_,by omega,rfl,ZE xA⟩
    | exact⟨_,by omega,rfl,ZE xA⟩
 rintro F h6 ⟨b6,f0,f1,f4,f9,f7,A,hA3,f10,t6⟩;have hA6:=Za t6;have z6:=b6.get (by omega) z3;have B6:=B3.trans (b6.mono B3.size);by_cases pe:PE=0
 case neg=>
  have ee:=show XF rc now=PE by rw[E2];unfold ga;rw[<-hPE,if_pos pe]
  rw[QK (by rw[ee];exact pe),ee];have yz:=fin h6 [D t 0,D t 0,D t 0,D t 0,D t 0] rfl rfl z6;have hz:=Za z6;simp -implicitDefEqProofs only[go_sem,f0,f1,f4,f9,f7,f10,pe,yz,hz]
  try exact (B6).Zj (R _) _
 have E3:XF rc now=fZ PL X now:=by rw[E2];unfold ga;rw[<-hPE,if_neg (fun hn=>hn pe)]
 obtain⟨rfl,rfl,rfl⟩:=ZqU pe;have n42:(22:Int)<=((H PL):Int):=by omega
 obtain⟨q2,d2,qN,WT⟩:=sPL.UM;simp only[Value.slice.injEq,true_and]at qN;obtain⟨rfl,rfl⟩:=qN;obtain⟨b22,o22,rfl,_,_⟩:=WT (by intro e;rw[e]at l42;cases l42);have d22:¬c2=22:=by omega
 have sB:=TZ (sPL.Yb b6) (k:=22) (by omega) rfl (c2-22);simp -implicitDefEqProofs only[go_sem,f0,f1,f4,f9,f7,f10,pe,n42,d22];refine (GW T h6 _ (PL.drop 22) sB (by rw[av];omega)).use ?_;rintro _ h7 ⟨rfl,b7⟩;have s7:=b7.size;have z7:=b7.get (by omega) z6;have t7:=b7.get hA6 t6;have B7:=B6.trans (b7.mono B6.size);obtain⟨DE,hDE⟩:=ZD (Uu (PL.drop 22));have Ys:¬h.size=h7.size:=by omega
 have IN:h.size<h7.size:=by omega
 by_cases de:DE=0
 case neg=>
  have ee:XF rc now=DE:=by rw[E3];unfold fZ;rw[<-hDE,if_pos de]
  rw[QK (by rw[ee];exact de),ee,kj (by rw[<-hDE];exact de),<-hDE];have yz:=fin h7 [D t 0,D t 0,D t 0,D t 0,D t 0] rfl rfl z7;simp -implicitDefEqProofs only[go_sem,f0,f1,f4,f9,f7,f10,de,yz,Ys,IN]
  try exact (B7.Zj (R _) _).Yx (by simp;omega) _
 have E4:XF rc now=rR PL X now:=by rw[E3];unfold fZ;rw[<-hDE,if_neg (fun hn=>hn de)]
 rw[ki (by rw[<-hDE];exact de),<-hDE,de];have eA:kf PL now=Nr ((PL.take 22).getD 0 0:Nat) ((PL.take 22).getD 1 0:Nat) (XZ (PL.take 22) 2:Nat) (XQ (PL.drop 22) 0) (XQ (PL.drop 22) 1) (XQ (PL.drop 22) 2) (XQ (PL.drop 22) 3) (XQ (PL.drop 22) 4) now:=rfl;have eC:XF rc now=0->Bj rc now=[D t (XQ (PL.drop 22) 0),D t (XQ (PL.drop 22) 1),D t (XQ (PL.drop 22) 2),D t (XQ (PL.drop 22) 3),D t (XQ (PL.drop 22) 4)]:=fun e=>by rw[ko e,ePL]
 have e4:rR PL X now=if XQ (PL.drop 22) 0≠0/\XQ (PL.drop 22) 1≠(X:Nat) then 11 else kf PL now:=rfl
 generalize XQ (PL.drop 22) 0=y0 at *;generalize XQ (PL.drop 22) 1=y1 at *;generalize XQ (PL.drop 22) 2=y2 at *;generalize XQ (PL.drop 22) 3=y3 at *;generalize XQ (PL.drop 22) 4=y4 at *;obtain⟨h8,hh8⟩:=ZD (h7.push (K [D t y0,D t y1,D t y2,D t y3,D t y4].toArray 43):Hp);have e8:h7.push (K #[Value.int t y0,D t y1,D t y2,D t y3,D t y4] 43)=h8:=hh8.symm
 try simp -implicitDefEqProofs only[go_sem,f0,f1,f4,f9,f7,f10,de]
 rw[e8];have b8:Zf h7.size h7 h8:=by rw[hh8];exact Zf.push (R _) _
 have s8:h8.size=h7.size+1:=by rw[hh8];simp
 have c8:h8[h7.size]? = Q (K [D t y0,D t y1,D t y2,D t y3,D t y4].toArray 43):=by rw[hh8];exact Zb
 clear e8 hh8;have z8:=b8.get (by omega) z7;have t8:=b8.get (by omega) t7;have B8:=B7.trans (b8.mono B7.size);have k80:V.hc h8 ⟨h7.size,0,O⟩=Q (D t y0):=by rw[Zg c8];rfl
 have k81:V.hc h8 ⟨h7.size,1,O⟩=Q (D t y1):=by rw[Zg c8];rfl
 have rT8:rd h8 ⟨A,0,O⟩ 3=_:=Zs t8 rfl;have rC8:rd h8 ⟨h7.size,0,O⟩ 5=_:=Zs c8 rfl;have b18:Zf h1.size h1 h8:=(b2.trans ((b3.mono s2).trans ((b6.mono (by omega)).trans ((b7.mono (by omega)).trans (b8.mono (by omega))))))
 have x8:V.hc h8 ⟨bb,oo,O⟩=Q (D .u8 (X:Nat)):=by
  rw[b18.hc (by show bb<h1.size;omega),b1.hc (by exact U9)];exact x0
 have yz8:=fin h8 [D t 0,D t 0,D t 0,D t 0,D t 0] rfl rfl z8;have yc8:=fin h8 [D t y0,D t y1,D t y2,D t y3,D t y4] rfl rfl z8;have hz8:=Za z8;refine VS.mono (N:=fun F' g'=>g'=h8/\F' 0=J (Q ⟨bb,oo,O⟩) (H rc) c/\F' 1=D t now/\F' 4=al (Q ⟨h.size,0,O⟩)/\F' 10=al (Q ⟨A,0,O⟩)/\F' 11=al (Q ⟨h7.size,0,O⟩)/\F' 78=am (decide (y0≠0/\y1≠(X:Nat)))) ?_ ?_ (fun _ _ _ h=>h) (fun _ _ h=>h)
 .refine VS.q mixed (by kernel_rfl) ?_;by_cases w0:y0=0
  .have hd:decide (y0≠0/\y1≠(X:Nat))=false:=decide_eq_false (fun hn=>hn.1 w0);rw[hd];simp -implicitDefEqProofs only[go_sem,f0,f1,f4,f9,f7,f10,k80,w0]
  .by_cases w1:y1=(X:Nat)
   .have hd:decide (y0≠0/\y1≠(X:Nat))=false:=decide_eq_false (fun hn=>hn.2 w1);rw[hd];simp -implicitDefEqProofs only[go_sem,f0,f1,f4,f9,f7,f10,k80,k81,x8,n0,w0,w1]
   .have hd:decide (y0≠0/\y1≠(X:Nat))=true:=decide_eq_true ⟨w0,w1⟩;rw[hd];simp -implicitDefEqProofs only[go_sem,f0,f1,f4,f9,f7,f10,k80,k81,x8,n0,w0,w1]
 rintro F' g8 ⟨Gn,g0,g1,g4,gt,gc,gb⟩;rw[Gn];clear Gn;by_cases uZ:y0≠0/\y1≠(X:Nat)
 case pos=>
  have ee:XF rc now=11:=by rw[E4,e4,if_pos uZ]
  rw[decide_eq_true uZ]at gb;rw[QK (by rw[ee];decide),ee];simp -implicitDefEqProofs only[go_sem,g4,gb,yz8,hz8]
  try exact B8.Zj (R _) _
 have E5:XF rc now=kf PL now:=by rw[E4,e4,if_neg uZ]
 rw[decide_eq_false uZ]at gb;have hal:Zc az T 28 #[aa #[D t ((PL.take 22).getD 0 0:Nat),D t ((PL.take 22).getD 1 0:Nat),D t (XZ (PL.take 22) 2:Nat)],aa #[D t y0,D t y1,D t y2,D t y3,D t y4],D t now] h8 fun v' h'=>v'=D t (kf PL now)/\Zf h8.size h8 h':=by
  rw[eA];exact jU T h8 _ _ _ y0 y1 y2 y3 y4 now (tn.JT B8)
 simp -implicitDefEqProofs only[go_sem,g0,g1,g4,gt,gc,gb,rT8,rC8];refine hal.use ?_;rintro _ h9 ⟨rfl,b9⟩;have s9:=b9.size;have z9:=b9.get (by omega) z8;have c9:=b9.get (by omega) c8;have rC9:rd h9 ⟨h7.size,0,O⟩ 5=_:=Zs c9 rfl;have B9:=B8.trans (b9.mono B8.size);have yz9:=fin h9 [D t 0,D t 0,D t 0,D t 0,D t 0] rfl rfl z9;have yc9:=fin h9 [D t y0,D t y1,D t y2,D t y3,D t y4] rfl rfl z9;have hz9:=Za z9;generalize kf PL now=OA at *;by_cases oa:OA=0
 .have ee:XF rc now=0:=by rw[E5,oa]
  rw[eC ee,ee];simp -implicitDefEqProofs only[go_sem,g4,gc,oa,rC9,yc9,hz9]
  try exact B9.Zj (R _) _
 .rw[QK (by rw[E5];exact oa),E5];simp -implicitDefEqProofs only[go_sem,g4,gc,oa,yz9,hz9]
  try exact B9.Zj (R _) _
end Go.Proofs.YtdpjmhgbmhjniaaGreatDoor
