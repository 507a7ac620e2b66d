/- Part Opn. -/
import Derived.Test.YtkhkmpfenaipaaaGreatDoorPik
import Derived.Test.YtkhkmpfenaipaaaGreatDoorW21
import Derived.Test.YtkhkmpfenaipaaaGreatDoorChw
import Derived.Test.YtkhkmpfenaipaaaGreatDoorLchks
import Derived.Test.YtkhkmpfenaipaaaGreatDoorVst
import Derived.Test.YtkhkmpfenaipaaaGreatDoorTakf
import Derived.Test.YtkhkmpfenaipaaaGreatDoorPak
import Derived.Test.YtkhkmpfenaipaaaGreatDoorTab
open Go.Value renaming int→D,slice→J,agg→W,pointer→aa,bool→ak
open Go.IntKind renaming i64→t
open Go.Obj renaming cells→K
open Go.Proofs.Tryz renaming prog→aq,underlying39→aI,underlying98→a4
open List renaming length→H,append_assoc→al,length_append→am,take_append_drop→an,length_drop→aC,length_cons→aF,length_take→aL,toArray→aS,drop_eq_getElem_cons→aV,length_nil→aX,append_nil→a6,nil_append→a7,getElem_mem→ba,take_left'→bc,length_set→bf
open Nat renaming le_refl→R,zero_add→aH,add_zero→a5,zero_le→a8,reduceEqDiff→a9
open Int renaming toNat_natCast→S
open Option renaming none→O,some→Q
open Array renaming getElem?_push→U,setIfInBounds→ae
open Go.Builtin renaming zeroCells→aW
open Go renaming Value→aw
namespace Go.Proofs.YtkhkmpfenaipaaaGreatDoor
set_option maxHeartbeats 2000000
open Go Go.V
set_option linter.all false
set_option maxRecDepth 100000
variable(T:World)
theorem Ab(h:Hp)(x y:Vt):Zg aq T 125 #[W (Zz x).toArray,W (Zz y).toArray] h fun a h'=>a=D t (MI x.Zx y.Zx)/\Zm h.size h h':=by
 refine Zg.X8 [_,_] Tryz.func125 ?_;unfold Zz;simp -implicitDefEqProofs only[go_sem];refine (Rv T _ _ _).pure ?_;simp -implicitDefEqProofs only[go_sem]
 all_goals exact aaf
def Found(l:List Vt)(s:Int)(i:Nat)(b:Bool):Prop:=(b=true/\∃hi:i<(H l),l[i].Zx=s)\/(b=false/\(∀j (a:j<(H l)),j<i->l[j].Zx<s)/\∀j (a:j<(H l)),i<=j->s<l[j].Zx)
theorem gY(a b:Int):MI a b<0↔a<b:=by unfold MI;grind
theorem Ad(a b:Int):MI a b=0↔a=b:=by unfold MI;grind
theorem Zcz{x:Nat}:Xn .u64 (x:Int) 1=((x/2:Nat):Int):=by
 rw[show (1:Int)=((1:Nat):Int) from rfl,Mi .u64 x 1 HE,Nat.shiftRight_eq_div_pow]
theorem nF(h:Hp)(u:aw)(l:List Vt)(v:Vt)(s:Ts Zz 8 h u l)(hs:Srt l)(hl:(H l)<=2199023255552):
  Zg aq T 124 #[u,W (Zz v).toArray,.func (.func 125) #[] #[]] h fun v' h'=>(∃(i:Nat) (b:Bool),i<=(H l)/\v'=.tuple [D t i,ak b].toArray/\Found l v.Zx i b)/\Zm h.size h h':=by
 obtain⟨p,c,rfl,G⟩:=Vk s;refine Zg.X8 [_,_,_] Tryz.func124 ?_;unfold Zz;simp -implicitDefEqProofs only[go_sem];refine VS.YC (fun F g=>Zm h.size h g/\g[h.size]? = Q (K (Zz v).toArray 141)/\F 0=J p (H l) c/\F 2=.func (.func 125) #[] #[]/\F 4=aa (Q ⟨h.size,0,O⟩)/\F 8=D t (H l)/\∃i j:Nat,i<=j/\j<=(H l)/\F 9=D t i/\F 10=D t j/\(∀k (a:k<(H l)),k<i->l[k].Zx<v.Zx)/\(∀k (a:k<(H l)),j<=k->v.Zx<=l[k].Zx))
  (fun F _=>(vi (F 10)).toNat-(vi (F 9)).toNat) rfl ⟨(Zm.refl _ _).add _,Zf,rfl,rfl,rfl,rfl,0,(H l),uh,uh,rfl,rfl,fun k _ a=>by omega,fun k a Fz=>by omega⟩ ?_
 rintro F g ⟨I,hx,A,f2,z,E,i,j,a1,hj,d,f10,lo,hi⟩;have Mm:=I.size;have Y:=Zb hx;have P:rd g ⟨h.size,0,O⟩ 8=Q (Zz v):=ZB hx rfl;unfold Zz at P;by_cases Ye:i<j
 .have M:(i:Int)<j:=uh;have e1:(i:Int)+(j:Int)=((i+j:Nat):Int):=uh;have e2:((i+j:Nat):Int)%18446744073709551616=((i+j:Nat):Int):=uh;have e3:=Zcz (x:=i+j);let⟨m,hm⟩:=ZO ((i+j)/2);rw[<-hm]at e3;have r:m<(H l):=uh;have a0:(m:Int)<(H l):=uh;obtain⟨L,X,rfl,Sb,_,G⟩:=G zK;have n:rd g ⟨L,X+m*8,O⟩ 8=Q (Zz l[m]):=by rw[Ut I (by exact Sb)];exact G m r
  let⟨y,Z⟩:=ZO (l[m]);rw[<-Z]at n;unfold Zz at n;simp -implicitDefEqProofs only[go_sem,d,f10,M,e1,e2,e3];refine VS.z (g.size) [] (.p 0 (.p 1 (.p 2 (.p 3 (.q 4 (.q 5 (.s 6 (.p 7 .nil)))))))) mixed zI ?_;have V:L<g.size:=uh;simp -implicitDefEqProofs only[go_sem,A,f2,z,a0,n,P,Y,V];refine (Ab T g y v).use ?_;rintro _ g1 ⟨rfl,B⟩;have N:=I.trans (B.mono Mm);have WH:=B.get Y hx;by_cases q:y.Zx<v.Zx
  .have o:=(gY _ _).2 q;simp -implicitDefEqProofs only[go_sem,o,A,f2,z,E,d,f10];refine⟨B,⟨N,WH,A,f2,z,E,m+1,j,uh,hj,rfl,f10,fun k a f=>?_,hi⟩,?_⟩
   .by_cases e:k=m
    .grind
    .have:=hs k m a r uh;grind
   .simp only[vi,Zu,↓reduceIte,a9,d,f10];omega
  .have o:¬MI y.Zx v.Zx<0:=fun h=>q ((gY _ _).1 h);simp -implicitDefEqProofs only[go_sem,o,A,f2,z,E,d,f10];refine⟨B,⟨N,WH,A,f2,z,E,i,m,uh,uh,d,rfl,lo,fun k a f=>?_⟩,?_⟩
   .by_cases e:k=m
    .grind
    .have:=hs m k r a uh;grind
   .simp only[vi,Zu,↓reduceIte,a9,d,f10];omega
 .have M:¬(i:Int)<j:=uh;obtain rfl:i=j:=uh;by_cases w:i<(H l)
  .have C:(i:Int)<(H l):=uh;obtain⟨L,X,rfl,Sb,_,G⟩:=G zK;have n:rd g ⟨L,X+i*8,O⟩ 8=Q (Zz l[i]):=by rw[Ut I (by exact Sb)];exact G i w
   have XX:=hi i w (R _);let⟨y,Z⟩:=ZO (l[i]);rw[<-Z]at n XX;unfold Zz at n;simp -implicitDefEqProofs only[go_sem,d,f10,M];refine VS.z (g.size) [] (.p 0 (.p 1 (.p 2 (.p 3 (.p 4 (.p 5 (.p 6 (.p 7 (.p 8 (.q 9 (.q 10 (.s 11 (.p 12 (.p 13 (.p 14 (.p 15 .nil)))))))))))))))) mixed zI ?_;have V:L<g.size:=uh;simp -implicitDefEqProofs only[go_sem,A,f2,z,E,d,f10,C,n,P,Y,V];refine (Ab T g y v).use ?_;rintro _ g1 ⟨rfl,B⟩;have N:=I.trans (B.mono Mm);by_cases q:y.Zx=v.Zx
   .have o:=(Ad _ _).2 q;simp -implicitDefEqProofs only[go_sem,o]
    grind [Found]
   .have o:¬MI y.Zx v.Zx=0:=fun h=>q ((Ad _ _).1 h);simp -implicitDefEqProofs only[go_sem,o];refine⟨B,⟨i,false,uh,rfl,.inr ⟨rfl,fun k a f=>lo k a f,fun k a f=>?_⟩⟩,N⟩;by_cases e:k=i
    .grind
    .have:=hs i k w a uh;grind
  .have C:¬(i:Int)<(H l):=uh;simp -implicitDefEqProofs only[go_sem,d,f10,M];refine VS.z (g.size) [] (.p 0 (.p 1 (.p 2 (.p 3 (.p 4 (.p 5 (.p 6 (.p 7 (.p 8 (.q 9 (.q 10 (.s 11 (.p 12 (.p 13 (.p 14 (.p 15 .nil)))))))))))))))) mixed zI ?_;simp -implicitDefEqProofs only[go_sem,A,f2,z,E,d,f10,C]
   grind [Found]
theorem QJ(l:List Vt):(ZW Zz l).length=(H l)*8:=QG (n:=8) (fun _=>rfl) l
theorem hO(l:List Vt):(ZW Zz l).all YV=true:=by
 induction l with
 | nil=>rfl
 | cons x l a=>rw[ZW,List.all_append,a];rfl
theorem zeroV(k:Nat):(aW (rep 8 [Value.int t 0]).toArray k).toList.length=k*8:=by rw[Array.length_toList,XW];rfl
theorem xo(k:Nat):(aW (rep 8 [Value.int t 0]).toArray k).toList.all YV=true:=by
 unfold aW;rw[List.all_eq_true];intro x a;simp only[Array.toList_map,Array.toList_range,List.mem_map]at a;obtain⟨j,_,rfl⟩:=a;have:j%8<8:=Nat.mod_lt _ HE;show YV ((rep 8 [Value.int t 0]).toArray[j%8]!)=true;rcases (by omega:j%8=0\/j%8=1\/j%8=2\/j%8=3\/j%8=4\/j%8=5\/j%8=6\/j%8=7) with e|e|e|e|e|e|e|e<;>rw[e]<;>rfl
theorem EX:Extern.findNext Tryz.f142=O/\Extern.find Tryz.f142=Q (Extern.SlicesOverlaps.overlaps #[98,98] #[4]):=⟨zI,zI⟩
theorem xp(h:Hp)(B:Nat)(p:Option Addr)(cap i:Nat)(l:List Vt)(x:Vt)(bv:Nat)(Zn:QY B 141 Zz 8 h (.slice p l.length cap) l)(hB:B<=h.size)(hi:i<=l.length)(hl:l.length<=1000000)(I:h[bv]? = Q (.cells (Zz x).toArray 141))(XU:cap≠0->∀b o,p=Q ⟨b,o,O⟩->b≠bv):
  Zg aq T 127 #[.slice p l.length cap,.int .i64 i,.slice (Q ⟨bv,0,O⟩) 1 1] h fun v' h'=>QY B 141 Zz 8 h' v' (l.take i++x :: l.drop i)/\Zm B h h':=by
 refine Zg.X8 [_,_,_] Tryz.func127 ?_;have b8:l.length<=cap:=by
  let⟨_,_,e,h⟩:=Zn.open;simp only[Value.slice.injEq]at e;omega
 have s:(0:Int)<=(i:Int):=by omega
 have n2:(i:Int)<=(l.length:Int):=by omega
 have sx:Ts Zz 8 h (.slice (Q ⟨bv,0,O⟩) 1 1) [x]:=⟨by
  have:=TJ (pre:=[]) (cs:=Zz x) (post:=[]) (m:=1) (n:=8) (c:=1) (by rw[a6,a7];exact I) rfl rfl
  simpa [ZW] using this⟩
 by_cases sy:i=l.length
 .subst sy;have q:((1:Nat):Int)=1:=rfl;by_cases c0:cap=0
  .obtain rfl:l=[]:=List.eq_nil_of_length_eq_zero (by omega);subst c0;rw[aX]at Zn ⊢;have k0:((0:Nat):Int)=0:=rfl;simp -implicitDefEqProofs only[go_sem,k0,q];refine RZ (E:=141) (B:=B) (n:=8) (bytes:=64) HT a4 Ku qW rfl qU (fun _=>rfl) Zn hB sx (by grind) (by omega) ?_;intro v' h' ho hb _;simp -implicitDefEqProofs only[go_sem]
   grind
  .obtain⟨b,ZT,ao,rfl,C,_,Bu,_⟩:=Zn.Zn.ZT c0;have hz:(l.length:Int)<=(l.length:Int):=Int.le_refl _;simp -implicitDefEqProofs only[go_sem,s,n2,q,S];refine RZ (E:=141) (B:=B) (n:=8) (bytes:=64) HT a4 Ku qW rfl qU (fun _=>rfl) Zn hB sx (by grind) (by omega) ?_;intro v' h' ho hb _;simp -implicitDefEqProofs only[go_sem]
   grind
 have M:i<l.length:=by omega
 have N:¬(i:Int)=(l.length:Int):=by omega
 have c0:cap≠0:=by omega
 obtain⟨b,ZT,ao,rfl,C,_,Bu,_⟩:=Zn.Zn.ZT c0;have P:b≠bv:=XU c0 b 0 rfl;have et:l=l.take i++(l[i] :: l.drop (i+1)):=by
  conv=>lhs;rw[<-an i l,aV M]
 have ed:ZW Zz (l.drop i)=Zz l[i]++ZW Zz (l.drop (i+1)):=by
  rw[aV M];rfl
 have ee:ZW Zz l=ZW Zz (l.take i)++ZW Zz (l.drop i):=by rw[<-Xd,an]
 have lt:(ZW Zz (l.take i)).length=i*8:=by rw[QJ,aL];congr 1;omega
 have ld:(ZW Zz (l.drop i)).length=(l.length-i)*8:=by rw[QJ,aC]
 have ZcC:ZW Zz (l.take i++x :: l.drop i)=ZW Zz (l.take i)++(Zz x++ZW Zz (l.drop i)):=by rw[Xd];rfl
 have bb:(l.take i++x :: l.drop i).length=l.length+1:=by rw[am,aL,aF,aC];omega
 have c1:¬cap=i:=by omega
 have m1:(l.length:Int)+1=((l.length+1:Nat):Int):=by omega
 have m2:((l.length+1:Nat):Int)-(i:Int)=((l.length+1-i:Nat):Int):=by omega
 have m3:(i:Int)+1=((i+1:Nat):Int):=by omega
 have q:((1:Nat):Int)=1:=rfl;by_cases WF:cap<l.length+1
 .have ic:(cap:Int)<((l.length+1:Nat):Int):=by omega
  have n3:(i:Int)<=(cap:Int):=by omega
  simp -implicitDefEqProofs only[go_sem,s,n2,n3,q,N,m1,ic,m2,S];have b4:QU B 141 8 h (.slice (Q ⟨b,0,O⟩) i cap) i (ZW Zz (l.take i)):=by
   have:=Zn.Zn.MF hi;rw[ee,bc lt]at this;exact this
  refine aG (E:=141) (B:=B) (n:=8) (m:=i) (k:=l.length+1-i) (bytes:=64) (zs:=rep 8 [Value.int .i64 0]) HT Tryz.underlying3 Ku qW rfl (by decide) qU b4 hB (xo _) (by omega) (by omega) ?_;intro w g ow _ CZ;obtain⟨bN,c2,rfl⟩:=CZ _ _ rfl (by omega);let⟨Z,hZ⟩:=ZO ((aW (rep 8 [Value.int .i64 0]).toArray (l.length+1-i)).toList);have lZ:=zeroV (l.length+1-i);rw[<-hZ]at ow lZ;have ec:i+(l.length+1-i)=l.length+1:=by omega
  rw[ec]at ow ⊢;rcases ow with⟨_,h0,_⟩|⟨b2,b9,a,_,L,VJ,_,b7,ax⟩
  .omega
  simp only[Value.slice.injEq,Option.some.injEq,Addr.mk.injEq,true_and,and_true]at L;obtain⟨rfl,rfl⟩:=L;have d1:¬c2=i:=by omega
  have d2:(i:Int)<=((l.length+1:Nat):Int):=by omega
  have ie:=Zb C;have a1:=Zb I;have rZ:g[b]? = _:=bN.get ie C;have a2:g[bv]? = _:=bN.get a1 I;have r:Sl 8 g (.slice (Q ⟨bv,0,O⟩) 1 1) 1 (Zz x):=TJ (pre:=[]) (post:=[]) (by rw[a6,a7];exact a2) rfl rfl;have A:min 1 (l.length+1-i)=1:=by omega
  have eZ:ZW Zz (l.take i)++Z++a=ZW Zz (l.take i)++(Z.take 8++(Z.drop 8++a)):=by rw[al,<-al (Z.take 8),an]
  have a0:(Z.take 8).length=8:=by rw[aL];omega
  have G:(Z.drop 8).length=(l.length-i)*8:=by rw[aC];omega
  have y:XB (ZW Zz (l.take i)++Z++a) (i*8) ((Zz x).take (1*8))=(ZW Zz (l.take i)++Zz x)++(Z.drop 8++a):=by
   rw[show (Zz x).take (1*8)=Zz x from rfl,eZ,SO lt.symm (by rw[a0];rfl),al]
  simp -implicitDefEqProofs only[go_sem,s,d1,d2,S,aH];refine IL (E:=141) (n:=8) HT Ku VJ r rfl ?_ ?_
  .grind
  rw[A,y];let⟨f,d⟩:=ZO (g.setIfInBounds h.size (.cells ((ZW Zz (l.take i)++Zz x)++(Z.drop 8++a)).toArray 141):Hp);rw[<-d];have u:f[h.size]? = Q (.cells ((ZW Zz (l.take i)++Zz x)++(Z.drop 8++a)).toArray 141):=by rw[d];exact Yp VJ
  have b0:f[b]? = Q (.cells (ZW Zz (l.take i)++(ZW Zz (l.drop i)++ZT)).toArray 141):=by rw[d,Xt (by omega),rZ,ee,al]
  have z:Zm h.size h f:=by rw[d];exact bN.ZA (R _) _
  clear d;have F:(i:Int)+1=((i+1:Nat):Int):=by omega
  have Y:¬c2=i+1:=by omega
  have X:((i+1:Nat):Int)<=((l.length+1:Nat):Int):=by omega
  have V:(0:Int)<=((i+1:Nat):Int):=by omega
  simp -implicitDefEqProofs only[go_sem];refine VS.z (h.size) [8] (.p 0 (.p 1 (.p 2 (.p 3 (.p 4 (.p 5 (.p 6 (.p 7 (.w 8 .nil))))))))) mixed (by kernel_rfl) ?_;simp -implicitDefEqProofs only[go_sem,s,n2,F,q,Y,X,V,c1,S,aH];have ss:Sl 8 f (.slice (Q ⟨b,i*8,O⟩) (l.length-i) (cap-i)) (l.length-i) (ZW Zz (l.drop i)):=TJ b0 ld lt.symm;have min2:min (l.length-i) (l.length+1-(i+1))=l.length-i:=by omega
  have j:(ZW Zz (l.drop i)).take ((l.length-i)*8)=ZW Zz (l.drop i):=List.take_of_length_le (by omega);have v:XB ((ZW Zz (l.take i)++Zz x)++(Z.drop 8++a)) ((i+1)*8) ((ZW Zz (l.drop i)).take ((l.length-i)*8))=ZW Zz (l.take i++x :: l.drop i)++a:=by
   rw[j,SO (by rw[am,lt];show (i+1)*8=i*8+8;omega) (by rw[ld,G]),ZcC];simp only[al]
  refine IL (E:=141) (n:=8) HT Ku u ss (hO _) ?_ ?_
  .rw[min2,am,am,am,lt,G];show _<=i*8+8+_;omega
  rw[min2,v];simp -implicitDefEqProofs only[go_sem];refine⟨⟨?_⟩,(z.ZA (R _) _).mono hB⟩
  grind [QU.lT,QJ]
 .have ic:¬(cap:Int)<((l.length+1:Nat):Int):=by omega
  have b3:((l.length+1:Nat):Int)<=(cap:Int):=by omega
  have n4:(0:Int)<=((l.length+1:Nat):Int):=by omega
  have F:(i:Int)+1=((i+1:Nat):Int):=by omega
  have X:((i+1:Nat):Int)<=((l.length+1:Nat):Int):=by omega
  have V:(0:Int)<=((i+1:Nat):Int):=by omega
  have Y:¬cap=i+1:=by omega
  simp -implicitDefEqProofs only[go_sem,s,n2,n4,q,c1,N,m1,ic,b3,F,Y,X,V,S,aH];have gB:h[b]? = Q (.cells (ZW Zz l++ZT).toArray 141 (0,0)):=C;have gA:h[bv]? = Q (.cells (Zz x).toArray 141 (0,0)):=I;have b5:8<=ZT.length:=by
   rw[Bu];have:=Nat.mul_le_mul_right 8 (show 1<=cap-l.length by omega);omega
  refine aJ Tryz.func142 (by decide) rfl EX.1 EX.2 ?_;refine aE (size:=8) a4 Ku (fun e=>P e.symm) gA gB (by grind [am]) ?_;simp -implicitDefEqProofs only[go_sem];refine VS.z (B) [8] (.p 0 (.p 1 (.p 2 (.p 3 (.p 4 (.p 5 (.p 6 (.p 7 (.w 8 .nil))))))))) mixed (by kernel_rfl) ?_;simp -implicitDefEqProofs only[go_sem,s,n2,F,q,Y,X,V,c1,S,aH];have ss:Sl 8 h (.slice (Q ⟨b,i*8,O⟩) (l.length+1-i) (cap-i)) (l.length+1-i) (ZW Zz (l.drop i)++ZT.take 8):=TJ (post:=ZT.drop 8) (by rw[C,ee,al,al,an]) (by grind) lt.symm;have min2:min (l.length+1-i) (l.length+1-(i+1))=l.length-i:=by omega
  have j:(ZW Zz (l.drop i)++ZT.take 8).take ((l.length-i)*8)=ZW Zz (l.drop i):=bc ld;have b6:(ZW Zz (l.drop (i+1))).length=(l.length-(i+1))*8:=by rw[QJ,aC]
  have b1:ZW Zz l++ZT=(ZW Zz (l.take i)++Zz l[i])++((ZW Zz (l.drop (i+1))++ZT.take 8)++ZT.drop 8):=by
   rw[ee,ed];simp only[al,an]
  have y:XB (ZW Zz l++ZT) ((i+1)*8) (ZW Zz (l.drop i))=ZW Zz (l.take i)++(Zz l[i]++(ZW Zz (l.drop i)++ZT.drop 8)):=by
   rw[b1,SO (by grind) (by grind),al]
  refine vr (E:=141) (n:=8) HT Ku gB ss (by rw[min2,j];exact hO _) ?_ ?_
  .grind
  rw[min2,j,y];let⟨f,d⟩:=ZO (h.setIfInBounds b (.cells (ZW Zz (l.take i)++(Zz l[i]++(ZW Zz (l.drop i)++ZT.drop 8))).toArray 141):Hp);rw[<-d];have u:f[b]? = Q (.cells (ZW Zz (l.take i)++(Zz l[i]++(ZW Zz (l.drop i)++ZT.drop 8))).toArray 141):=by rw[d];exact Yp C
  have a3:f[bv]? = Q (.cells (Zz x).toArray 141):=by rw[d,Xt P];exact I
  have z:Zm B h f:=by rw[d];exact Zm.set ao _
  clear d;have r:Sl 8 f (.slice (Q ⟨bv,0,O⟩) 1 1) 1 (Zz x):=TJ (pre:=[]) (post:=[]) (by rw[a6,a7];exact a3) rfl rfl;have A:min 1 (l.length+1-i)=1:=by omega
  have v:XB (ZW Zz (l.take i)++(Zz l[i]++(ZW Zz (l.drop i)++ZT.drop 8))) (i*8) ((Zz x).take (1*8))=ZW Zz (l.take i++x :: l.drop i)++ZT.drop 8:=by
   rw[show (Zz x).take (1*8)=Zz x from rfl,SO lt.symm (show (Zz x).length=(Zz l[i]).length from rfl),ZcC];simp only[al]
  simp -implicitDefEqProofs only[go_sem,s,n2,F,q,Y,X,V,c1,S,aH];refine IL (E:=141) (n:=8) HT Ku u r rfl ?_ ?_
  .grind
  rw[A,v];simp -implicitDefEqProofs only[go_sem];refine⟨⟨?_⟩,z.trans (Zm.set ao _)⟩
  grind [QU.lT,QJ]
theorem ZgU{l:List Vt}(b:Srt l)(c:∀x∈l,Yz x):∀i (hi:i<(H l)),(i:Int)<=l[i].Zx:=by
 intro i
 induction i with
 | zero=>intro hi;have:=(c _ (ba hi)).1.1;omega
 | succ i a=>
  intro hi;have e:=a uh;have d:=b i (i+1) uh hi uh;omega
theorem ZgV{l:List Vt}(b:Srt l)(a:∀x∈l,Yz x):(H l)<=40:=by
 by_cases h:(H l)<=40
 .exact h
 .have d:=ZgU b a 40 uh;have c:=(a _ (ba (show 40<(H l) by omega))).1.2;omega
def Xw(p:ZN)(l:List Vt)(x:Vt):Int:=if Qq p l≠0 then 5 else if ¬Yz x then 2 else if Zj x.b p then 7 else 0
def sz(B:Nat)(h':Hp)(a:aw)(p:ZN)(l:List Vt)(x:Vt):Prop:=∃w,a=.tuple [W (XO (if Xw p l x=0 then x.b else ⟨0,0⟩) w).toArray,D t (Xw p l x)].toArray /\
 QY B 141 Zz 8 h' w (if Xw p l x=0 then Jq l x else [])
theorem Hb(h:Hp)(p:ZN)(u:aw)(l:List Vt)(x:Vt)(s:Ts Zz 8 h u l)(hl:(H l)<=2199023255552):
  Zg aq T 102 #[W (XO p u).toArray,W (Zz x).toArray] h fun v' h'=>sz h.size h' v' p l x/\Zm h.size h h':=by
 obtain⟨M,N,rfl,_⟩:=Vk s;refine Zg.Kq [_,_] Tryz.func102 ?_;unfold XO Zz;simp -implicitDefEqProofs only[go_sem];let⟨n,r⟩:=ZO (((h.push (K (XO p (J M (H l) N)).toArray 100)).push (K (Zz x).toArray 141)).push (K [D t 0,D t 0,J O 0 0].toArray 100):Hp);have b0:Zm h.size h n:=by rw[r];exact (((Zm.refl _ _).add _).add _).add _
 have s0:n.size=h.size+3:=by rw[r];simp
 have x0:n[h.size]? = Q (K (XO p (J M (H l) N)).toArray 100):=by
  rw[r,U,if_neg Fo,U,if_neg zX,Zf]
 have y0:n[h.size+1]? = Q (K (Zz x).toArray 141):=by
  rw[r,U,if_neg zX,U,if_pos zX]
 have z0:n[h.size+2]? = Q (K [D t 0,D t 0,J O 0 0].toArray 100):=by
  rw[r,U,if_pos zX]
 have g:((h.push (K #[Value.int t p.r,D t p.n,J M (H l) N] 100)).push (K #[Value.int t x.Zx,D t x.b.r,D t x.b.n,D t x.k,D t x.c,D t x.s,D t x.nm,D t x.v] 141)).push (K #[Value.int t 0,D t 0,J O 0 0] 100)=n:=r.symm;rw[g];clear g r;refine (MX T n p _ l (s.YQ b0) uh).use ?_;rintro _ m ⟨rfl,E⟩;have s1:=E.size;have B1:Zm h.size h m:=b0.trans (E.mono uh);have x1:=E.get uh x0;have y1:=E.get uh y0;have z1:=E.get uh z0;have fin:∀(G:Hp) (w:List aw),(H w)=3->w.all YV=true->G[h.size+2]? = Q (K [D t 0,D t 0,J O 0 0].toArray 100)->wr G ⟨h.size+1+1,0,O⟩ w=Q (ae G (h.size+1+1) (K (aS w) 100)):=by
  intro G w k m hx;rw[Yr (b:=h.size+1+1) hx 0 w,Yf (by rw[k];rfl),if_pos ⟨by rw[k];simp,m⟩]
 have b8:h.size+2<m.size:=uh;unfold sz;rcases H6 p l with g|g
 case inr=>
  have e:Xw p l x=5:=by unfold Xw;rw[if_pos zK]
  have w2:=fin m [D t 0,D t 0,J O 0 0] rfl rfl z1;simp -implicitDefEqProofs only[go_sem,g,e,w2,b8];exact⟨⟨_,rfl,QY.nil _ _ _ _ _⟩,B1.ZA uh _⟩
 have r1:rd m ⟨h.size+1,0,O⟩ 8=Q (Zz x):=ZB y1 rfl;unfold Zz at r1;simp -implicitDefEqProofs only[go_sem,g,r1];refine (FC T m x).use ?_;rintro _ y ⟨rfl,C⟩;have s2:=C.size;have B2:=B1.trans (C.mono uh);have x2:=C.get uh x1;have y2:=C.get uh y1;have z2:=C.get uh z1;have Lr:h.size+2<y.size:=uh;by_cases v:Yz x
 case neg=>
  have e:Xw p l x=2:=by unfold Xw;rw[if_neg zK,if_pos v]
  have w2:=fin y [D t 0,D t 0,J O 0 0] rfl rfl z2;simp -implicitDefEqProofs only[go_sem,v,e,w2,Lr];exact⟨⟨_,rfl,QY.nil _ _ _ _ _⟩,B2.ZA uh _⟩
 have rb:rd y ⟨h.size+1,1,O⟩ 2=Q [D t x.b.r,D t x.b.n]:=by rw[YZ y2 (by simp[Zz])];rfl
 have rp:rd y ⟨h.size,0,O⟩ 2=Q [D t p.r,D t p.n]:=by rw[YZ x2 (by simp[XO])];rfl
 simp -implicitDefEqProofs only[go_sem,v,rb,rp];refine (Sc T y x.b p).use ?_;rintro _ k ⟨rfl,B⟩;have s3:=B.size;have B3:=B2.trans (B.mono uh);have x3:=B.get uh x2;have y3:=B.get uh y2;have z3:=B.get uh z2;have vI:h.size+2<k.size:=uh;by_cases I:Zj x.b p
 case pos=>
  have e:Xw p l x=7:=by unfold Xw;rw[if_neg zK,if_neg (fun h=>h v),if_pos I]
  have w2:=fin k [D t 0,D t 0,J O 0 0] rfl rfl z3;have q:IX x.b p<0:=(KJ x.b p).2 I;simp -implicitDefEqProofs only[go_sem,q,e,w2,vI];exact⟨⟨_,rfl,QY.nil _ _ _ _ _⟩,B3.ZA uh _⟩
 have e:Xw p l x=0:=by unfold Xw;rw[if_neg zK,if_neg (fun h=>h v),if_neg I]
 have q:¬IX x.b p<0:=fun h=>I ((KJ x.b p).1 h);have f:=EC g;have ig:=ZgV f (mM g);have rv:hc k ⟨h.size,2,O⟩=Q (J M (H l) N):=by rw[Zr x3];rfl
 simp -implicitDefEqProofs only[go_sem,q,rv];refine (Rx T k _ l (s.YQ B3) hl).use ?_;rintro w4 h4 ⟨o4,X⟩;have s4:=X.size;have B4:=B3.trans (X.mono uh);have y4:=X.get uh y3;have z4:=X.get uh z3;have r4:rd h4 ⟨h.size+1,0,O⟩ 8=Q (Zz x):=ZB y4 rfl;unfold Zz at r4;simp -implicitDefEqProofs only[go_sem,r4];refine (nF T h4 w4 l x o4.ts f hl).use ?_;rintro _ c ⟨⟨i,b,hi,rfl,hf⟩,A⟩;have s5:=A.size;have B5:=B4.trans (A.mono uh);have F:=A.get uh y4;have z5:=A.get uh z4;have o5:=o4.YQ A (R _);have r5:rd c ⟨h.size+1,0,O⟩ 8=Q (Zz x):=ZB F rfl;unfold Zz at r5;have n1:(0:Int)<=(i:Int):=uh;obtain⟨p4,z,rfl,a2⟩:=o4.open;rcases hf with⟨rfl,j,heq⟩|⟨rfl,a0,a1⟩
 .have b9:(i:Int)<((H l):Int):=uh;have c0:z≠0:=uh;obtain⟨b,ZT,ao,rfl,hg,_,Bu,_⟩:=o5.Zn.ZT c0;have et:l=l.take i++(l[i] :: l.drop (i+1)):=by
   conv=>lhs;rw[<-an i l,aV j]
  have es:l.set i x=l.take i++(x :: l.drop (i+1)):=by rw[List.set_eq_take_append_cons_drop,if_pos j]
  have ee:ZW Zz l=ZW Zz (l.take i)++(Zz l[i]++ZW Zz (l.drop (i+1))):=by
   have:=congrArg (ZW Zz) et;rw[Xd]at this;exact this
  have ax:ZW Zz (l.set i x)=ZW Zz (l.take i)++(Zz x++ZW Zz (l.drop (i+1))):=by
   have:=congrArg (ZW Zz) es;rw[Xd]at this;exact this
  have lt:(ZW Zz (l.take i)).length=i*8:=by rw[QJ,aL];congr 1;omega
  have hw:wr c ⟨b,i*8,O⟩ (Zz x)=Q (ae c b (K (ZW Zz (l.set i x)++ZT).toArray 141)):=by
   have ll:=QJ l;have hmul:i*8+8<=(H l)*8:=uh;rw[Yr hg,if_pos ⟨by rw[am,ll];show i*8+8<=_;omega,rfl⟩,ee,al,al,SO lt.symm (show (Zz x).length=(Zz l[i]).length from rfl),ax,al,al]
  have bd:b<c.size:=Zb hg;have bK:¬h.size+1=b:=uh;have bh:¬h.size+2=b:=uh;have bb:rd c ⟨h.size+1,1,O⟩ 2=Q [D t x.b.r,D t x.b.n]:=by rw[YZ F (by simp[Zz])];rfl
  let⟨d,a⟩:=ZO (ae c b (K (ZW Zz (l.set i x)++ZT).toArray 141):Hp);rw[<-a]at hw;unfold Zz at hw;have y6:d[h.size+1]? = Q (K (Zz x).toArray 141):=by rw[a,Xt uh];exact F
  have z6:d[h.size+2]? = Q (K [D t 0,D t 0,J O 0 0].toArray 100):=by rw[a,Xt uh];exact z5
  have B6:Zm h.size h d:=by rw[a];exact B5.ZA uh _
  have o6:QY (h.size+3) 141 Zz 8 d (J (Q ⟨b,0,O⟩) (H l) z) (l.set i x):=by
   refine⟨?_⟩;rw[bf];exact QU.lT uh zK (by rw[QJ,bf]) Bu a2
  have Z:rd d ⟨h.size+1,1,O⟩ 2=Q [D t x.b.r,D t x.b.n]:=by rw[YZ y6 (by simp[Zz])];rfl
  have w6:=fin d [D t x.b.r,D t x.b.n,J (Q ⟨b,0,O⟩) (H l) z] rfl rfl z6;have a3:h.size+2<d.size:=Zb z6;simp -implicitDefEqProofs only[go_sem,n1,b9,r5,S,aH,hw,Z,w6,a3,e];refine⟨⟨_,rfl,?_⟩,B6.ZA uh _⟩;rw[ZbS f j heq];exact (o6.Ym uh _).mono uh
 .have hn:Jq l x=l.take i++x :: l.drop i:=ZbT f hi a0 a1;simp -implicitDefEqProofs only[go_sem,r5];let⟨d,a⟩:=ZO (c.push (K (Zz x).toArray 141):Hp);have e6:c.push (K #[Value.int t x.Zx,D t x.b.r,D t x.b.n,D t x.k,D t x.c,D t x.s,D t x.nm,D t x.v] 141)=d:=a.symm;rw[e6];have V:Zm c.size c d:=by rw[a];exact Zm.push (R _) _
  have s6:d.size=c.size+1:=by rw[a];simp
  have v6:d[c.size]? = Q (K (Zz x).toArray 141):=by rw[a];exact Zf
  clear e6 a;have B6:=B5.trans (V.mono uh);have o6:=(o5.YQ V (R _)).mono (B':=h.size+3) uh;have XU:z≠0->∀b o,p4=Q ⟨b,o,O⟩->b≠c.size:=by
   intro c0 b o hp;subst hp;let⟨b',_,_,QW,CT,_⟩:=o5.Zn.ZT c0;simp only[Option.some.injEq,Addr.mk.injEq]at QW;have:=Zb CT;omega
  refine (xp T d (h.size+3) p4 z i l x c.size o6 uh hi uh v6 XU).use ?_;rintro w7 h7 ⟨o7,P⟩;obtain⟨p7,c7,rfl,_⟩:=o7.open;have s7:=P.size;have B7:=B6.trans (P.mono uh);have y7:=P.get uh (V.get uh F);have z7:=P.get uh (V.get uh z5);have Y:rd h7 ⟨h.size+1,1,O⟩ 2=Q [D t x.b.r,D t x.b.n]:=by rw[YZ y7 (by simp[Zz])];rfl
  let⟨L,hL⟩:=ZO (l.take i++x :: l.drop i);rw[<-hL]at o7 hn ⊢;have w7:=fin h7 [D t x.b.r,D t x.b.n,J p7 (H L) c7] rfl rfl z7;have EN:h.size+2<h7.size:=Zb z7;simp -implicitDefEqProofs only[go_sem,Y,w7,EN,e];refine⟨⟨_,rfl,?_⟩,B7.ZA uh _⟩;rw[hn];exact (o7.Ym uh _).mono uh
def QS(l:List Nat)(n:Int)(x:Vt):Int:=if ¬Xo l n then 5 else if ¬Yz x then 2 else Qz l n 33
def WJ(x:Vt):List Nat:=2 :: (ZI [x.Zx.toNat,x.b.r.toNat,x.b.n.toNat]++ZI [x.k.toNat,x.c.toNat,x.s.toNat,x.nm.toNat,x.v.toNat])
theorem nG(x:Vt):Xw ⟨0,0⟩ [] x=if Yz x then 0 else 2:=by
 grind [Qq,Xw,Yz,Zj,Zv]
theorem ZcF(h:Hp)(v:aw)(n:Int)(l:List Nat)(x:Vt)(s:Bs h v l)(hl:(H l)<=140737488355328)(tk:Tk h):
  Zg aq T 114 #[W [v,D t n].toArray,W (Zz x).toArray] h fun v' h'=>Oo h.size h' v' l n (QS l n x) (Xm (WJ x))/\Zm h.size h h':=by
 obtain⟨p,c,rfl,_⟩:=s.open;refine Zg.X8 [_,_] Tryz.func114 ?_;unfold Oo Zz;simp -implicitDefEqProofs only[go_sem];let⟨h0,Qo⟩:=ZO (((h.push (K [J p (H l) c,D t n].toArray 95)).push (K (Zz x).toArray 141)).push (K [J O 0 0,D t 0].toArray 95):Hp);have b0:Zm h.size h h0:=by rw[Qo];exact (((Zm.refl _ _).add _).add _).add _
 have s0:h0.size=h.size+3:=by rw[Qo];simp
 have t0:h0[h.size]? = Q (K [J p (H l) c,D t n].toArray 95):=by
  rw[Qo,U,if_neg Fo,U,if_neg zX,Zf]
 have t1:h0[h.size+1]? = Q (K (Zz x).toArray 141):=by
  rw[Qo,U,if_neg zX,U,if_pos zX]
 have x0:h0[h.size+2]? = Q (K [J O 0 0,D t 0].toArray 95):=by
  rw[Qo,U,if_pos zX]
 have e0:((h.push (K #[Value.slice p (H l) c,D t n] 95)).push (K #[Value.int t x.Zx,D t x.b.r,D t x.b.n,D t x.k,D t x.c,D t x.s,D t x.nm,D t x.v] 141)).push (K #[Value.slice O 0 0,D t 0] 95)=h0:=Qo.symm;rw[e0];clear e0 Qo;refine (Wp T h0 _ n l (s.YQ b0) hl).use ?_;rintro _ C ⟨b1,i⟩;have s1:=b1.size;have B1:Zm h.size h C:=b0.trans (b1.mono uh);have x1:=b1.get uh x0;by_cases ok:Xo l n
 case neg=>
  have ee:QS l n x=5:=by unfold QS;rw[if_pos ok]
  rw[if_neg (show ¬((H l)<=100000/\0<=n/\n<=(H l)) from ok)]at i;subst i;rw[ee];have y2:=Yr x1 0;have Ye:h.size+2<C.size:=uh;have XU:¬h.size+2=C.size:=uh;simp -implicitDefEqProofs only[go_sem,y2,XU,Ye]
  grind [YL.nil,Zm.Xj,Zm.ZA]
 rw[if_pos (show ((H l)<=100000/\0<=n/\n<=(H l)) from ok)]at i;obtain⟨w,rfl,i⟩:=i;obtain⟨pw,cw,rfl,_⟩:=i.open;have a0:=b1.get uh t1;have r1:rd C ⟨h.size+1,0,O⟩ 8=Q (Zz x):=ZB a0 rfl;unfold Zz at r1;have bK:¬h.size+1=C.size:=uh;simp -implicitDefEqProofs only[go_sem,r1,bK];have b2:Zm C.size C (C.push (K [J pw (H l) cw,D t n].toArray 95)):=Zm.push (R _) _;refine (Hb T _ ⟨0,0⟩ (J O 0 0) [] x (QY.nil 0 141 Zz 8 _).ts zX).use ?_;rintro _ f ⟨⟨w1,rfl,q1⟩,b3⟩;have B3:Zm C.size C f:=b2.trans (b3.mono b2.size);rw[nG]at q1 ⊢;let⟨p1,c1,vS,_⟩:=q1.open;have s3:=B3.size;have x3:=B3.get uh x1;have sc:=B1.trans (B3.mono uh);by_cases may:Yz x
 case neg=>
  have ee:QS l n x=2:=by unfold QS;rw[if_neg (fun hn=>hn ok),if_pos may]
  rw[if_neg may]at vS;rw[ee,if_neg may];subst vS;have y2:=Yr x3 0;have Ye:h.size+2<f.size:=uh;have XU:¬h.size+2=f.size:=uh;unfold XO;simp -implicitDefEqProofs only[go_sem,y2,XU,Ye]
  grind [YL.nil,Zm.Xj,Zm.ZA]
 have ee:QS l n x=Qz l n 33:=by unfold QS;rw[if_neg (fun hn=>hn ok),if_neg (fun hn=>hn may)]
 rw[if_pos may]at vS;rw[ee,if_pos may];let⟨⟨m1,m2⟩,⟨⟨m3,m4⟩,m5,m6⟩,mc⟩:=may;let⟨xs,⟨br,bn⟩,xk,xc,xss,xn,xv⟩:=x;simp only at m1 m2 m3 m4 m5 m6 mc;obtain⟨k,c2,s2,nm,vv,rfl,rfl,rfl,rfl,rfl,_⟩:=HW mc;obtain⟨sl,rfl⟩:∃r:Nat,xs=r:=⟨xs.toNat,uh⟩
 obtain⟨r,rfl⟩:∃r:Nat,br=r:=⟨br.toNat,uh⟩
 obtain⟨m,rfl⟩:∃m:Nat,bn=m:=⟨bn.toNat,uh⟩
 unfold WJ;rw[if_pos rfl]at vS;subst vS;unfold XO;have t3:=B3.get uh (b1.get uh t0);have t13:=B3.get uh a0;have rc:rd f ⟨h.size+1,3,O⟩ 5=Q (Wg k c2 s2 nm vv):=by rw[YZ t13 (by simp[Zz])];rfl
 unfold Wg at rc;have ax:¬h.size+1=f.size:=uh;simp -implicitDefEqProofs only[go_sem,rc,ax];let⟨g0,F⟩:=ZO (f.push (K [D t (r:Nat),D t (m:Nat),J p1 (Jq [] ⟨sl,⟨r,m⟩,k,c2,s2,nm,vv⟩).length c1].toArray 100):Hp);have e3:f.push (K #[Value.int t (r:Nat),D t (m:Nat),J p1 (Jq [] ⟨sl,⟨r,m⟩,k,c2,s2,nm,vv⟩).length c1] 100)=g0:=F.symm;rw[e3];have bg0:Zm f.size f g0:=by rw[F];exact Zm.push (R _) _
 have sg0:g0.size=f.size+1:=by rw[F];simp
 clear e3 F;refine (IT T g0 k c2 s2 nm vv).use ?_;rintro _ g ⟨⟨wc,rfl,sC⟩,bg1⟩;rw[mc,if_pos rfl]at sC;simp only[S]at sC ⊢;rw[mc];have lC:(ZI [k,c2,s2,nm,vv]).length=20:=by rw[ZV];rfl
 generalize ZI [k,c2,s2,nm,vv]=CB at *;obtain⟨pc,cc,rfl,_⟩:=sC.open;have bg:Zm f.size f g:=bg0.trans (bg1.mono uh);have sg:f.size+1<=g.size:=by have:=bg1.size;omega
 have Bg:Zm h.size h g:=sc.trans (bg.mono uh);have Z:=bg.get uh x3;have t4:=bg.get uh t3;have t14:=bg.get uh t13;have r0:rd g ⟨h.size,0,O⟩ 2=Q [J p (H l) c,D t n]:=ZB t4 rfl;have c0:V.hc g ⟨h.size+1,0,O⟩=Q (D t (sl:Nat)):=by rw[Zr t14];rfl
 have ao:V.hc g ⟨h.size+1,1,O⟩=Q (D t (r:Nat)):=by rw[Zr t14];rfl
 have a3:V.hc g ⟨h.size+1,2,O⟩=Q (D t (m:Nat)):=by rw[Zr t14];rfl
 have k0:h.size<g.size:=uh;have k1:h.size+1<g.size:=uh;simp -implicitDefEqProofs only[go_sem];refine VS.z (g.size) [18,19] (.q 0 (.p 2 (.q 3 (.p 4 (.p 5 (.q 6 (.p 7 (.p 8 (.q 9 (.p 13 (.or 1 (.s 10 (.s 11 (.s 12 (.s 14 (.s 15 (.p 16 (.p 17 (.w 18 (.w 19 .nil))))))))) (.s 10 (.or 1 (.s 11 (.s 12 (.s 14 (.s 15 (.p 16 (.p 17 (.w 18 (.w 19 .nil)))))))) (.s 11 (.s 1 (.s 12 (.s 14 (.s 15 (.p 16 (.p 17 (.w 18 (.w 19 .nil)))))))))))))))))))))) mixed zI ?_;simp -implicitDefEqProofs only[go_sem,r0,c0,ao,a3,k0,k1];refine⟨?_,?_,?_⟩
 .have o0:YL g.size 5 (g.push (K (([2]:List Nat).map bv).toArray 5)) (J (Q ⟨g.size,0,O⟩) 1 1) [2]:=YL.made HE (R _);have B0:Zm g.size g ((g.push (K (([2]:List Nat).map bv).toArray 5)).push (K (([sl,r,m]:List Nat).map nv).toArray 3)):=(Zm.push (R _) _).Xj zX _;have a2:=o0.push (K (([sl,r,m]:List Nat).map nv).toArray 3);have si:NT ((g.push (K (([2]:List Nat).map bv).toArray 5)).push (K (([sl,r,m]:List Nat).map nv).toArray 3)) (J (Q ⟨(g.push (K (([2]:List Nat).map bv).toArray 5)).size,0,O⟩) 3 3) [sl,r,m]:=TK _ _;have e1:(g.push (K (([2]:List Nat).map bv).toArray 5)).size=g.size+1:=zX;rw[e1]at si;refine (Pz T _ _ [sl,r,m] si zX zK).use ?_;rintro w5 h5 ⟨o5,b5⟩;have A:=B0.trans (b5.mono B0.size);have i:=a2.YQ b5 (R _);have s4:=o5.bs;simp -implicitDefEqProofs only[go_sem,A];refine ZP (E:=5) (B:=g.size) XD aI T8 SU SQ i A.size s4 (by rw[ZV];simp) ?_;intro w6 P o6 b6 _;have e:Zm g.size g P:=A.trans b6;have o:YL g.size 5 P w6 (2 :: ZI [sl,r,m]):=o6;have l6:(2 :: ZI [sl,r,m]).length=13:=by simp only[aF,ZV,aX]
  simp -implicitDefEqProofs only[go_sem,e];refine ZP (E:=5) (B:=g.size) XD aI T8 SU SQ o e.size (sC.YQ e) uh ?_;intro M q o7 b7 _;have a:Zm g.size g q:=e.trans b7;have d:=Bg.trans (a.mono uh);have j:YL g.size 5 q M (2 :: (ZI [sl,r,m]++CB)):=o7;have el:(2 :: (ZI [sl,r,m]++CB)).length=33:=by rw[aF,am,lC,ZV];rfl
  simp -implicitDefEqProofs only[go_sem,a];refine (Py T q _ M n l (2 :: (ZI [sl,r,m]++CB)) (s.YQ d) hl j.bs uh (tk.QL d)).use ?_;rintro _ N ⟨⟨w8,rfl,b⟩,X⟩;rw[el]at b ⊢;have Y:Zm g.size g N:=a.trans (X.mono a.size);have y:=d.trans (X.mono d.size);have L:=Y.get uh Z;have y8:=Yr L 0;have u:h.size+2<N.size:=Zb L;generalize Xm (2 :: (ZI [sl,r,m]++CB))=FR at *;let⟨E,hE⟩:=ZO (Qz l n 33);rw[<-hE]at b ⊢;obtain⟨z,hz⟩:∃z:Int,z=if E=0 then n else 0:=⟨_,rfl⟩
  rw[<-hz];obtain⟨pz,cz,rfl,_⟩:=b.open;simp -implicitDefEqProofs only[go_sem,Y,y8,u];refine⟨⟨_,rfl,?_⟩,y.ZA uh _⟩;exact (b.Ym (by have:=a.size;omega) _).mono (by have:=a.size;omega)
 .have I:Zm g.size g (g.push (K (([sl,r,m]:List Nat).map nv).toArray 3)):=Zm.push (R _) _;have o0:YL g.size 5 ((g.push (K (([sl,r,m]:List Nat).map nv).toArray 3)).push (K (([2]:List Nat).map bv).toArray 5)) (J (Q ⟨(g.push (K (([sl,r,m]:List Nat).map nv).toArray 3)).size,0,O⟩) 1 1) [2]:=(YL.made HE (R _)).mono zX;have B0:Zm g.size g ((g.push (K (([sl,r,m]:List Nat).map nv).toArray 3)).push (K (([2]:List Nat).map bv).toArray 5)):=I.Xj zX _;have a1:NT (g.push (K (([sl,r,m]:List Nat).map nv).toArray 3)) (J (Q ⟨g.size,0,O⟩) 3 3) [sl,r,m]:=TK _ _;have si:=a1.YQ (Zm.push (R _) (K (([2]:List Nat).map bv).toArray 5));have e1:(g.push (K (([sl,r,m]:List Nat).map nv).toArray 3)).size=g.size+1:=zX;rw[e1]at o0;refine (Pz T _ _ [sl,r,m] si zX zK).use ?_;rintro w5 h5 ⟨o5,b5⟩;have A:=B0.trans (b5.mono B0.size);have i:=o0.YQ b5 (R _);have s4:=o5.bs;simp -implicitDefEqProofs only[go_sem,A];refine ZP (E:=5) (B:=g.size) XD aI T8 SU SQ i A.size s4 (by rw[ZV];simp) ?_;intro w6 P o6 b6 _;have e:Zm g.size g P:=A.trans b6;have o:YL g.size 5 P w6 (2 :: ZI [sl,r,m]):=o6;have l6:(2 :: ZI [sl,r,m]).length=13:=by simp only[aF,ZV,aX]
  simp -implicitDefEqProofs only[go_sem,e];refine ZP (E:=5) (B:=g.size) XD aI T8 SU SQ o e.size (sC.YQ e) uh ?_;intro M q o7 b7 _;have a:Zm g.size g q:=e.trans b7;have d:=Bg.trans (a.mono uh);have j:YL g.size 5 q M (2 :: (ZI [sl,r,m]++CB)):=o7;have el:(2 :: (ZI [sl,r,m]++CB)).length=33:=by rw[aF,am,lC,ZV];rfl
  simp -implicitDefEqProofs only[go_sem,a];refine (Py T q _ M n l (2 :: (ZI [sl,r,m]++CB)) (s.YQ d) hl j.bs uh (tk.QL d)).use ?_;rintro _ N ⟨⟨w8,rfl,b⟩,X⟩;rw[el]at b ⊢;have Y:Zm g.size g N:=a.trans (X.mono a.size);have y:=d.trans (X.mono d.size);have L:=Y.get uh Z;have y8:=Yr L 0;have u:h.size+2<N.size:=Zb L;generalize Xm (2 :: (ZI [sl,r,m]++CB))=FR at *;let⟨E,hE⟩:=ZO (Qz l n 33);rw[<-hE]at b ⊢;obtain⟨z,hz⟩:∃z:Int,z=if E=0 then n else 0:=⟨_,rfl⟩
  rw[<-hz];obtain⟨pz,cz,rfl,_⟩:=b.open;simp -implicitDefEqProofs only[go_sem,Y,y8,u];refine⟨⟨_,rfl,?_⟩,y.ZA uh _⟩;exact (b.Ym (by have:=a.size;omega) _).mono (by have:=a.size;omega)
 .have I:Zm g.size g (g.push (K (([sl,r,m]:List Nat).map nv).toArray 3)):=Zm.push (R _) _;have si:NT (g.push (K (([sl,r,m]:List Nat).map nv).toArray 3)) (J (Q ⟨g.size,0,O⟩) 3 3) [sl,r,m]:=TK _ _;refine (Pz T _ _ [sl,r,m] si zX zK).use ?_;rintro w5 h5 ⟨o5,b5⟩;have G:=I.trans (b5.mono I.size);have A:Zm g.size g (h5.push (K (([2]:List Nat).map bv).toArray 5)):=G.Xj G.size _;have i:YL g.size 5 (h5.push (K (([2]:List Nat).map bv).toArray 5)) (J (Q ⟨h5.size,0,O⟩) 1 1) [2]:=(YL.made HE (R _)).mono G.size;have s4:=o5.bs.YQ (Zm.push (R h5.size) (K (([2]:List Nat).map bv).toArray 5));simp -implicitDefEqProofs only[go_sem,G,A];refine ZP (E:=5) (B:=g.size) XD aI T8 SU SQ i A.size s4 (by rw[ZV];simp) ?_;intro w6 P o6 b6 _;have e:Zm g.size g P:=A.trans b6;have o:YL g.size 5 P w6 (2 :: ZI [sl,r,m]):=o6;have l6:(2 :: ZI [sl,r,m]).length=13:=by simp only[aF,ZV,aX]
  simp -implicitDefEqProofs only[go_sem,e];refine ZP (E:=5) (B:=g.size) XD aI T8 SU SQ o e.size (sC.YQ e) uh ?_;intro M q o7 b7 _;have a:Zm g.size g q:=e.trans b7;have d:=Bg.trans (a.mono uh);have j:YL g.size 5 q M (2 :: (ZI [sl,r,m]++CB)):=o7;have el:(2 :: (ZI [sl,r,m]++CB)).length=33:=by rw[aF,am,lC,ZV];rfl
  simp -implicitDefEqProofs only[go_sem,a];refine (Py T q _ M n l (2 :: (ZI [sl,r,m]++CB)) (s.YQ d) hl j.bs uh (tk.QL d)).use ?_;rintro _ N ⟨⟨w8,rfl,b⟩,X⟩;rw[el]at b ⊢;have Y:Zm g.size g N:=a.trans (X.mono a.size);have y:=d.trans (X.mono d.size);have L:=Y.get uh Z;have y8:=Yr L 0;have u:h.size+2<N.size:=Zb L;generalize Xm (2 :: (ZI [sl,r,m]++CB))=FR at *;let⟨E,hE⟩:=ZO (Qz l n 33);rw[<-hE]at b ⊢;obtain⟨z,hz⟩:∃z:Int,z=if E=0 then n else 0:=⟨_,rfl⟩
  rw[<-hz];obtain⟨pz,cz,rfl,_⟩:=b.open;simp -implicitDefEqProofs only[go_sem,Y,y8,u];refine⟨⟨_,rfl,?_⟩,y.ZA uh _⟩;exact (b.Ym (by have:=a.size;omega) _).mono (by have:=a.size;omega)
structure QT where
 p:ZN
 l:List Vt
def sE(b:List Nat):Vt->Vt:=fun v=>⟨v.Zx,v.b,JE b 0,JE b 4,JE b 8,JE b 12,JE b 16⟩
def J7(a:QT)(b:List Nat):Option QT:=
 if (H b)=9/\b.getD 0 0=1 then (if YX a.p a.l ⟨JE b 1,JE b 5⟩=0 then Q ⟨⟨JE b 1,JE b 5⟩,a.l⟩ else O)
 else if (H b)=33/\b.getD 0 0=2 then (if Uh (b.drop 13)≠0 then O else
  if Xw a.p a.l (sE (b.drop 13) ⟨JE b 1,⟨JE b 5,JE b 9⟩,0,0,0,0,0⟩)=0 then Q ⟨⟨JE b 5,JE b 9⟩,Jq a.l (sE (b.drop 13) ⟨JE b 1,⟨JE b 5,JE b 9⟩,0,0,0,0,0⟩)⟩ else O)
 else O
def bP(B:Nat)(h':Hp)(d:aw)(a:QT)(b:List Nat):Prop:=∃P p m c,d=.tuple [W (XO P (J p m c)).toArray,ak (J7 a b).isSome].toArray/\∀x,J7 a b=Q x->P=x.p/\QY B 141 Zz 8 h' (J p m c) x.l
theorem Sh(l:List Nat)(k i:Nat):JE (l.drop k) i=JE l (k+i):=by
 grind [JE]
theorem ZgW(h:Hp)(v:aw)(l:List Nat)(s:Bs h v l)(hi:4<=(H l))(u:(H l)<=140737488355328):
  Zg aq T 101 #[v] h fun g h'=>g=D t (JE l 0:Nat)/\h'=h:=by
 obtain⟨p,c,rfl,r⟩:=s.Th;refine Zg.X8 [_] Tryz.func101 ?_;obtain⟨b,o,rfl,hb,a⟩:=r zK;have d:=a 0 uh;have q:=a 1 uh;have n:=a 2 uh;have m:=a 3 uh;have f:=Yn s.byte 0;have w1:=Yn s.byte 1;have w2:=Yn s.byte 2;have e:=Yn s.byte 3;have k:=aP f w1 w2 e;have j:(0:Int)<(H l):=uh;have i:(1:Int)<(H l):=uh;have n2:(2:Int)<(H l):=uh;have n3:(3:Int)<(H l):=uh;rw[a5]at d;unfold JE;rw[aH,aH,aH];generalize l.getD 0 0=a0 at *;generalize l.getD 1 0=a1 at *;generalize l.getD 2 0=a2 at *;generalize l.getD 3 0=a3 at *;simp -implicitDefEqProofs only[go_sem];refine VS.q mixed zI ?_;simp -implicitDefEqProofs only[go_sem,d,q,n,m,j,i,n2,n3,k]
theorem NB(h:Hp)(g e d f m a:Nat)(b:List Nat)(k:Nat)(s:Bs h (J (Q ⟨g,e,O⟩) a d) b)(c:(H b)=a)(o:k+4<=a)(l:m=a-k)(n:a<=100000):
  Zg aq T 101 #[J (Q ⟨g,e+k,O⟩) m f] h fun i h'=>i=D t (JE b k:Nat)/\h'=h:=by
 subst l;have j:=Om s (k:=k) (by omega) c f;have:=ZgW T h _ (b.drop k) j (by grind) (by grind);rw[Sh]at this;exact this
theorem nH(l:List Nat)(h:Uh l=0):Ev l=[D t (JE l 0),D t (JE l 4),D t (JE l 8),D t (JE l 12),D t (JE l 16)]:=by
 unfold Ev;rw[if_pos h];rfl
theorem xq(l:List Nat)(h:¬Uh l=0):Ev l=[D t 0,D t 0,D t 0,D t 0,D t 0]:=by
 unfold Ev;rw[if_neg h];rfl
theorem ZcH(h:Hp)(P:ZN)(pv:Option Addr)(n:Nat)(l:List Vt)(q:Option Addr)(m d:Nat)(b:List Nat)(s:Ts Zz 8 h (J pv (H l) n) l)(sb:Bs h (J q m d) b)(Z:(H b)=m)(hl:(H l)<=1000000)(hb:m<=1000)(hd:m<=d):
  Zg aq T 79 #[W (XO P (J pv (H l) n)).toArray,J q m d] h fun v' h'=>bP h.size h' v' ⟨P,l⟩ b/\Zm h.size h h':=by
 refine Zg.Kq [_,_] Tryz.func79 ?_;unfold XO;simp -implicitDefEqProofs only[go_sem];let⟨a,Qo⟩:=ZO ((h.push (K (XO P (J pv (H l) n)).toArray 100)).push (K [D t 0,D t 0,J O 0 0].toArray 100):Hp);have b0:Zm h.size h a:=by rw[Qo];exact ((Zm.refl _ _).add _).add _
 have s0:a.size=h.size+2:=by rw[Qo];simp
 have x0:a[h.size]? = Q (K (XO P (J pv (H l) n)).toArray 100):=by
  rw[Qo,U,if_neg (by simp),Zf]
 have z0:a[h.size+1]? = Q (K [D t 0,D t 0,J O 0 0].toArray 100):=by
  rw[Qo,U,if_pos (by simp)]
 have e0:(h.push (K #[Value.int t P.r,D t P.n,J pv (H l) n] 100)).push (K #[Value.int t 0,D t 0,J O 0 0] 100)=a:=Qo.symm;rw[e0];clear e0 Qo;have fin:∀(G:Hp) (k:Nat) (w:List aw),(H w)=3->w.all YV=true->G[k]? = Q (K [D t 0,D t 0,J O 0 0].toArray 100)->wr G ⟨k,0,O⟩ w=Q (ae G k (K (aS w) 100)):=by
  intro G k w h3 f hx;rw[Yr (b:=k) hx 0 w,Yf (by rw[h3];rfl),if_pos ⟨by rw[h3];simp,f⟩]
 have u:=sb.YQ b0;have a1:=s.YQ b0;have r0:rd a ⟨h.size,0,O⟩ 3=Q [D t P.r,D t P.n,J pv (H l) n]:=ZB x0 rfl;have k0:h.size<a.size:=by omega
 have k1:h.size+1<a.size:=by omega
 unfold bP;by_cases n9:m=9
 .subst n9;have k9:((9:Nat):Int)=9:=rfl;let⟨q',d',hv,hh⟩:=u.Th;simp only[Value.slice.injEq]at hv;obtain⟨rfl,_,rfl⟩:=hv;obtain⟨bb,oo,rfl,Sb,Jx⟩:=hh (by grind);have o:=Jx 0 (by omega);rw[a5]at o;by_cases q1:b.getD 0 0=1
  case neg=>
   have b4:¬((b.getD 0 0:Nat):Int)=1:=by omega
   have e:J7 ⟨P,l⟩ b=O:=by
    unfold J7;rw[if_neg (fun z=>q1 z.2),if_neg (fun z=>by omega)]
   have p:=fin a (h.size+1) [D t P.r,D t P.n,J pv (H l) n] rfl rfl z0;simp -implicitDefEqProofs only[go_sem,k9,o,b4,e,r0,p,k1]
   grind [XO,Zm.ZA]
  rw[q1]at o;have e1:((1:Nat):Int)=1:=rfl;rw[e1]at o;obtain⟨X,hX⟩:∃X:ZN,X=⟨JE b 1,JE b 5⟩:=⟨_,rfl⟩
  have e:J7 ⟨P,l⟩ b=if YX P l X=0 then Q ⟨X,l⟩ else O:=by
   unfold J7;rw[if_pos ⟨Z,q1⟩,hX]
  have call:∀G,Ts Zz 8 G (J pv (H l) n) l->Zg aq T 100 #[W #[D t P.r,D t P.n,J pv (H l) n],W #[D t (JE b 1:Nat),D t (JE b 5:Nat)]] G fun v' h'=>fR G.size h' v' P l X/\Zm G.size G h':=fun G sG=>by
   rw[hX];exact Ol T G P _ l _ sG (by omega)
  clear hX;have d1:¬d=1:=by omega
  have d5:¬d=5:=by omega
  have c:=u;simp -implicitDefEqProofs only[go_sem,k9,o];refine VS.mono (N:=fun F' g'=>Zm a.size a g'/\F' 4=aa (Q ⟨h.size+1,0,O⟩)/\F' 8=D t (YX P l X)/\∃A p1 i,a.size<=A/\F' 6=aa (Q ⟨A,0,O⟩)/\g'[A]? = Q (K (XO (if YX P l X=0 then X else ⟨0,0⟩) (J p1 (if YX P l X=0 then l else []).length i)).toArray 100)/\QY a.size 141 Zz 8 g' (J p1 (if YX P l X=0 then l else []).length i) (if YX P l X=0 then l else [])) ?_ ?_ (fun _ _ _ h=>h) (fun _ _ h=>h)
  .refine VS.z (a.size) [] (.q 0 (.p 1 (.p 2 (.p 4 (.p 5 (.or 3 (.or 6 (.p 7 (.or 8 (.p 9 (.p 10 (.p 11 (.p 12 (.s 13 (.s 14 (.p 15 (.p 16 .nil)))))))) (.s 13 (.s 8 (.p 9 (.p 10 (.p 11 (.p 12 (.s 14 (.p 15 (.p 16 .nil))))))))))) (.s 13 (.s 6 (.p 7 (.s 8 (.p 9 (.p 10 (.p 11 (.p 12 (.s 14 (.p 15 (.p 16 .nil)))))))))))) (.s 13 (.s 3 (.s 6 (.p 7 (.s 8 (.p 9 (.p 10 (.p 11 (.p 12 (.s 14 (.p 15 (.p 16 .nil)))))))))))))))))) mixed (by kernel_rfl) ?_;simp -implicitDefEqProofs only[go_sem,r0,k0,k9,d1,d5,o,S]
   repeat' (first
     | with_reducible exact Zm.refl _ _
     | with_reducible exact Zm.push (by omega) _
     | (with_reducible refine (NB T _ bb oo d _ _ _ b 1 (by first|exact c|exact c.YQ (Zm.push (R _) _)) Z (by omega) rfl (by omega)).pure ?_;simp -implicitDefEqProofs only[go_sem,r0,k0,o,S])
     | (with_reducible refine (NB T _ bb oo d _ _ _ b 5 (by first|exact c|exact c.YQ (Zm.push (R _) _)) Z (by omega) rfl (by omega)).pure ?_;simp -implicitDefEqProofs only[go_sem,r0,k0,o,S])
     | with_reducible refine And.intro ?_ ?_)
   all_goals first
    | (refine (call a a1).use ?_
       rintro _ g1 ⟨⟨w1,w2,rfl,v,o2⟩,j⟩;obtain⟨p1,i,rfl,_⟩:=v.open;obtain⟨p2,c2,rfl,_⟩:=o2.open;generalize (if YX P l X=0 then X else ⟨0,0⟩)=Y at *;generalize (if YX P l X=0 then l else [])=L at *;generalize YX P l X=E at *;have s1:=j.size;unfold XO;simp -implicitDefEqProofs only[go_sem,j];exact⟨_,_,_,s1,rfl,Zf,v.push _⟩)
    | (refine (call (a.push (K [D t 0,D t 0,J O 0 0].toArray 100)) (a1.YQ (Zm.push (R _) _))).use ?_
       rintro _ g1 ⟨⟨w1,w2,rfl,v,o2⟩,j⟩;obtain⟨p1,i,rfl,_⟩:=v.open;obtain⟨p2,c2,rfl,_⟩:=o2.open;generalize (if YX P l X=0 then X else ⟨0,0⟩)=Y at *;generalize (if YX P l X=0 then l else [])=L at *;generalize YX P l X=E at *;have B1:Zm a.size a g1:=(Zm.push (R _) _).trans (j.mono (by simp));have r:=j.get (by simp) Zf;have yA:=fin g1 a.size [D t Y.r,D t Y.n,J p1 (H L) i] rfl rfl r;have hz:=Zb r;unfold XO;simp -implicitDefEqProofs only[go_sem,B1,yA,hz];exact⟨_,_,_,R _,rfl,Yp r,(v.Ym (b:=a.size) (by simp) _).mono (by simp)⟩)
  .rintro F' g' ⟨hB,f4,f8,A,p1,i,hA,f6,r,oA⟩;have z1:=hB.get (by omega) z0;have y:=Zb z1;have rA:rd g' ⟨A,0,O⟩ 3=_:=ZB r rfl;generalize hY:(if YX P l X=0 then X else ⟨0,0⟩)=Y at *;generalize hL:(if YX P l X=0 then l else [])=L at *;generalize YX P l X=E at *;unfold XO at rA;have p:=fin g' (h.size+1) [D t Y.r,D t Y.n,J p1 (H L) i] rfl rfl z1;have B:Zm h.size h (ae g' (h.size+1) (K [D t Y.r,D t Y.n,J p1 (H L) i].toArray 100)):=(b0.trans (hB.mono (by omega))).ZA (by omega) _;by_cases q:E=0
   .rw[if_pos q]at e hY hL;simp -implicitDefEqProofs only[go_sem,f4,f6,f8,rA,p,y,q,e];refine⟨⟨Y,p1,(H L),i,rfl,fun x hx=>?_⟩,B⟩
    cases hx
    exact⟨hY.symm,by rw[hL];exact (oA.Ym (by omega) _).mono (by omega)⟩
   .rw[if_neg q]at e;simp -implicitDefEqProofs only[go_sem,f4,f6,f8,rA,p,y,q,e];exact⟨⟨Y,p1,(H L),i,rfl,by simp⟩,B⟩
 have ao:¬(m:Int)=9:=by omega
 by_cases b5:m=33
 case neg=>
  have b7:¬(m:Int)=33:=by omega
  have e:J7 ⟨P,l⟩ b=O:=by
   unfold J7;rw[if_neg (fun z=>by omega),if_neg (fun z=>by omega)]
  have p:=fin a (h.size+1) [D t P.r,D t P.n,J pv (H l) n] rfl rfl z0;simp -implicitDefEqProofs only[go_sem,ao,b7,e,r0,p,k1]
  grind [XO,Zm.ZA]
 subst b5;have a2:((33:Nat):Int)=33:=rfl;clear ao;let⟨q',d',hv,hh⟩:=u.Th;simp only[Value.slice.injEq]at hv;obtain⟨rfl,_,rfl⟩:=hv;obtain⟨bb,oo,rfl,Sb,Jx⟩:=hh (by grind);have o:=Jx 0 (by omega);rw[a5]at o;by_cases q2:b.getD 0 0=2
 case neg=>
  have b3:¬((b.getD 0 0:Nat):Int)=2:=by omega
  have e:J7 ⟨P,l⟩ b=O:=by
   unfold J7;rw[if_neg (fun z=>by omega),if_neg (fun z=>q2 z.2)]
  have p:=fin a (h.size+1) [D t P.r,D t P.n,J pv (H l) n] rfl rfl z0;simp -implicitDefEqProofs only[go_sem,a2,o,b3,e,r0,p,k1]
  grind [XO,Zm.ZA]
 rw[q2]at o;have e2:((2:Nat):Int)=2:=rfl;rw[e2]at o;have d13:¬d=13:=by omega
 have d33:(33:Int)<=(d:Int):=by omega
 have b2:=fun c'=>Om u (k:=13) (by omega) Z c';simp -implicitDefEqProofs only[go_sem,a2,o,d13,d33,S];refine (BK T a _ (b.drop 13) (b2 _) (by grind)).use ?_;rintro _ g ⟨rfl,bg⟩;have sg:=bg.size;by_cases q3:Uh (b.drop 13)=0
 case neg=>
  have e:J7 ⟨P,l⟩ b=O:=by
   unfold J7;rw[if_neg (fun z=>by omega),if_pos ⟨Z,q2⟩,if_pos q3]
  rw[xq _ q3];have zg:=bg.get k1 z0;have xg:=bg.get k0 x0;have rg:rd g ⟨h.size,0,O⟩ 3=Q [D t P.r,D t P.n,J pv (H l) n]:=ZB xg rfl;have p:=fin g (h.size+1) [D t P.r,D t P.n,J pv (H l) n] rfl rfl zg;have b8:¬h.size=g.size:=by omega
  have bK:¬h.size+1=g.size:=by omega
  have b9:h.size+1<g.size:=by omega
  simp -implicitDefEqProofs only[go_sem,q3,e,rg,p,b8,bK,b9]
  grind [XO,Zm.Xj,Zm.ZA,Zm.trans,Zm.mono]
 rw[nH _ q3,q3];obtain⟨X,hX⟩:∃X:Vt,X=sE (b.drop 13) ⟨JE b 1,⟨JE b 5,JE b 9⟩,0,0,0,0,0⟩:=⟨_,rfl⟩
 have e:J7 ⟨P,l⟩ b=if Xw P l X=0 then Q ⟨X.b,Jq l X⟩ else O:=by
  unfold J7;rw[if_neg (fun z=>by omega),if_pos ⟨Z,q2⟩,if_neg (fun z=>z q3),<-hX];rw[show (⟨((JE b 5:Nat):Int),((JE b 9:Nat):Int)⟩:ZN)=X.b by rw[hX];rfl]
 have call:∀G,Ts Zz 8 G (J pv (H l) n) l->Zg aq T 102 #[W #[D t P.r,D t P.n,J pv (H l) n],W #[D t (JE b 1:Nat),D t (JE b 5:Nat),D t (JE b 9:Nat),D t (JE (b.drop 13) 0:Nat),D t (JE (b.drop 13) 4:Nat),D t (JE (b.drop 13) 8:Nat),D t (JE (b.drop 13) 12:Nat),D t (JE (b.drop 13) 16:Nat)]] G fun v' h'=>sz G.size h' v' P l X/\Zm G.size G h':=fun G sG=>by
  rw[hX];exact Hb T G P _ l _ sG (by omega)
 clear hX;generalize JE (b.drop 13) 0=y0 at *;generalize JE (b.drop 13) 4=y4 at *;generalize JE (b.drop 13) 8=y8 at *;generalize JE (b.drop 13) 12=F at *;generalize JE (b.drop 13) 16=C at *;let⟨f,Jt⟩:=ZO (g.push (K [D t (y0:Nat),D t (y4:Nat),D t (y8:Nat),D t (F:Nat),D t (C:Nat)].toArray 43):Hp);have e1:g.push (K #[Value.int t (y0:Nat),D t (y4:Nat),D t (y8:Nat),D t (F:Nat),D t (C:Nat)] 43)=f:=Jt.symm;simp -implicitDefEqProofs only[go_sem];rw[e1];have j:Zm a.size a f:=by rw[Jt];exact bg.Xj sg _
 have bd:f.size=g.size+1:=by rw[Jt];simp
 have b6:f[g.size]? = Q (K [D t (y0:Nat),D t (y4:Nat),D t (y8:Nat),D t (F:Nat),D t (C:Nat)].toArray 43):=by rw[Jt];exact Zf
 clear e1 Jt;have x1:=j.get k0 x0;have ax:=j.get k1 z0;have r1:rd f ⟨h.size,0,O⟩ 3=Q [D t P.r,D t P.n,J pv (H l) n]:=ZB x1 rfl;have I:rd f ⟨g.size,0,O⟩ 5=Q [D t (y0:Nat),D t (y4:Nat),D t (y8:Nat),D t (F:Nat),D t (C:Nat)]:=ZB b6 rfl;have a0:hc f ⟨bb,oo,O⟩=Q (D .u8 2):=by rw[j.hc (by exact Sb)];exact o
 have V:h.size<f.size:=by omega
 have M:g.size<f.size:=by omega
 have c:=u.YQ j;have a3:=a1.YQ j;have d1:¬d=1:=by omega
 have d5:¬d=5:=by omega
 have d9:¬d=9:=by omega
 have B1:Zm h.size h f:=b0.trans (j.mono (by omega));refine VS.mono (N:=fun F' g'=>Zm f.size f g'/\F' 4=aa (Q ⟨h.size+1,0,O⟩)/\F' 10=D t (Xw P l X)/\∃A p1 i,f.size<=A/\F' 11=aa (Q ⟨A,0,O⟩)/\g'[A]? = Q (K (XO (if Xw P l X=0 then X.b else ⟨0,0⟩) (J p1 (if Xw P l X=0 then Jq l X else []).length i)).toArray 100)/\QY f.size 141 Zz 8 g' (J p1 (if Xw P l X=0 then Jq l X else []).length i) (if Xw P l X=0 then Jq l X else [])) ?_ ?_ (fun _ _ _ h=>h) (fun _ _ h=>h)
 .refine VS.z (f.size) [] (.q 0 (.p 1 (.p 2 (.p 4 (.p 5 (.p 7 (.p 8 (.q 11 (.or 3 (.or 6 (.or 9 (.p 10 (.p 12 (.or 13 (.p 14 (.p 15 (.p 16 (.s 17 (.s 18 (.p 19 .nil)))))) (.s 17 (.s 13 (.p 14 (.p 15 (.p 16 (.s 18 (.p 19 .nil)))))))))) (.s 17 (.s 9 (.p 10 (.p 12 (.s 13 (.p 14 (.p 15 (.p 16 (.s 18 (.p 19 .nil))))))))))) (.s 17 (.s 6 (.s 9 (.p 10 (.p 12 (.s 13 (.p 14 (.p 15 (.p 16 (.s 18 (.p 19 .nil)))))))))))) (.s 17 (.s 3 (.s 6 (.s 9 (.p 10 (.p 12 (.s 13 (.p 14 (.p 15 (.p 16 (.s 18 (.p 19 .nil))))))))))))))))))))) mixed (by kernel_rfl) ?_;simp -implicitDefEqProofs only[go_sem,r1,I,V,M,a2,d1,d5,d9,a0,S]
  repeat' (first
    | with_reducible exact Zm.refl _ _
    | with_reducible exact Zm.push (by omega) _
    | (with_reducible refine (NB T _ bb oo d _ _ _ b 1 (by first|exact c|exact c.YQ (Zm.push (R _) _)) Z (by omega) rfl (by omega)).pure ?_;simp -implicitDefEqProofs only[go_sem,r1,I,V,M,a0,S])
    | (with_reducible refine (NB T _ bb oo d _ _ _ b 5 (by first|exact c|exact c.YQ (Zm.push (R _) _)) Z (by omega) rfl (by omega)).pure ?_;simp -implicitDefEqProofs only[go_sem,r1,I,V,M,a0,S])
    | (with_reducible refine (NB T _ bb oo d _ _ _ b 9 (by first|exact c|exact c.YQ (Zm.push (R _) _)) Z (by omega) rfl (by omega)).pure ?_;simp -implicitDefEqProofs only[go_sem,r1,I,V,M,a0,S])
    | with_reducible refine And.intro ?_ ?_)
  all_goals first
   | (refine (call f a3).use ?_
      rintro _ g1 ⟨⟨w1,rfl,v⟩,j⟩;obtain⟨p1,i,rfl,_⟩:=v.open;generalize (if Xw P l X=0 then X.b else ⟨0,0⟩)=Y at *;generalize (if Xw P l X=0 then Jq l X else [])=L at *;generalize Xw P l X=E at *;have s1:=j.size;unfold XO;simp -implicitDefEqProofs only[go_sem,j];exact⟨_,_,_,s1,rfl,Zf,v.push _⟩)
   | (refine (call (f.push (K [D t 0,D t 0,J O 0 0].toArray 100)) (a3.YQ (Zm.push (R _) _))).use ?_
      rintro _ g1 ⟨⟨w1,rfl,v⟩,j⟩;obtain⟨p1,i,rfl,_⟩:=v.open;generalize (if Xw P l X=0 then X.b else ⟨0,0⟩)=Y at *;generalize (if Xw P l X=0 then Jq l X else [])=L at *;generalize Xw P l X=E at *;have B1:Zm f.size f g1:=(Zm.push (R _) _).trans (j.mono (by simp));have r:=j.get (by simp) Zf;have yA:=fin g1 f.size [D t Y.r,D t Y.n,J p1 (H L) i] rfl rfl r;have hz:=Zb r;unfold XO;simp -implicitDefEqProofs only[go_sem,B1,yA,hz];exact⟨_,_,_,R _,rfl,Yp r,(v.Ym (b:=f.size) (by simp) _).mono (by simp)⟩)
 .rintro F' g' ⟨hB,f4,f8,A,p1,i,hA,f6,r,oA⟩;have z1:=hB.get (by omega) ax;have y:=Zb z1;have rA:rd g' ⟨A,0,O⟩ 3=_:=ZB r rfl;generalize hY:(if Xw P l X=0 then X.b else ⟨0,0⟩)=Y at *;generalize hL:(if Xw P l X=0 then Jq l X else [])=L at *;generalize Xw P l X=E at *;unfold XO at rA;have p:=fin g' (h.size+1) [D t Y.r,D t Y.n,J p1 (H L) i] rfl rfl z1;have B:Zm h.size h (ae g' (h.size+1) (K [D t Y.r,D t Y.n,J p1 (H L) i].toArray 100)):=(B1.trans (hB.mono (by omega))).ZA (by omega) _;by_cases q:E=0
  .rw[if_pos q]at e hY hL;simp -implicitDefEqProofs only[go_sem,f4,f6,f8,rA,p,y,q,e];refine⟨⟨Y,p1,(H L),i,rfl,fun x hx=>?_⟩,B⟩
   cases hx
   exact⟨hY.symm,by rw[hL];exact (oA.Ym (by omega) _).mono (by omega)⟩
  .rw[if_neg q]at e;simp -implicitDefEqProofs only[go_sem,f4,f6,f8,rA,p,y,q,e];exact⟨⟨Y,p1,(H L),i,rfl,by simp⟩,B⟩
theorem nJ{h:Hp}{d a m c k n off b c':Nat}{l:List Nat}(s:Bs h (J (Q ⟨d,a,O⟩) m c) l)(f:(H l)=m)(j:k+n<=m)(e:off=a+k)(g:b=n):Bs h (J (Q ⟨d,off,O⟩) b c') ((l.drop k).take n):=by
 subst e;subst g;have i:=Om s (k:=k) (by omega) f c'
 grind [aC,Bs.MF]
def OS(l:List Nat)(k:Nat):Nat:=1+l.getD k 0
def Xp(l:List Nat)(a:QT)(k:Nat):Option (QT × Nat):=
 if k<(H l)/\k+OS l k+4<=(H l)/\(Ro ((l.drop k).take (OS l k))).take 4=(l.drop (k+OS l k)).take 4 then
  (J7 a ((l.drop (k+1)).take (OS l k-1))).map fun x=>(x,k+(OS l k+4))
 else O
inductive Rec(l:List Nat):QT->Nat->QT->Nat->Prop
 | stop {a:QT} {k:Nat}:Xp l a k=O->Rec l a k a k
 | go {a a' r:QT} {k k' j:Nat}:Xp l a k=Q (a',k')->Rec l a' k' r j->Rec l a k r j
def Qj:QT:=⟨⟨0,0⟩,[]⟩
def ZcJ(B:Nat)(h':Hp)(a:aw)(l:List Nat)(n:Int):Prop:=∃(r:QT) (k:Nat) (E:Int) (w:aw),a=.tuple [W (XO r.p w).toArray,D t k,D t E].toArray/\QY B 141 Zz 8 h' w r.l/\k<=(H l)/\(H r.l)<=k /\
 if Xo l n then E=0/\Rec l Qj 0 r k else E=5/\r=Qj/\k=0
theorem ii{l:List Vt}(b:Srt l)(v:Vt):(Jq l v).length<=(H l)+1:=by
 have:∀l:List Vt,(l.filter (fun x=>decide (x.Zx<v.Zx))).length+(l.filter (fun x=>decide (v.Zx<x.Zx))).length<=(H l):=by
  intro l
  induction l with
  | nil=>simp
  | cons x l a=>
   grind
 grind [Jq]
theorem bQ{a x:QT}{b:List Nat}(h:J7 a b=Q x):(H x.l)<=(H a.l)+1:=by
 unfold J7 at h;split at h
 .split at h
  .cases h;simp
  .cases h
 .split at h
  .split at h
   .cases h
   .split at h
    .rename_i q
     cases h
     have:Qq a.p a.l=0:=by
      unfold Xw at q;split at q
      .cases q
      .grind
     exact ii (EC this) _
    .cases h
  .cases h
theorem EZ(h:Hp)(v:aw)(n:Int)(l:List Nat)(s:Bs h v l)(hl:(H l)<=140737488355328)(tk:Tk h):
  Zg aq T 59 #[W [v,D t n].toArray] h fun v' h'=>ZcJ h.size h' v' l n/\Zm h.size h h':=by
 obtain⟨p,c,rfl,_⟩:=s.open;refine Zg.Kq [_] Tryz.func59 ?_;unfold ZcJ;simp -implicitDefEqProofs only[go_sem];let⟨h0,Qo⟩:=ZO ((h.push (K [J p (H l) c,D t n].toArray 95)).push (K [D t 0,D t 0,J O 0 0].toArray 100):Hp);have b0:Zm h.size h h0:=by rw[Qo];exact ((Zm.refl _ _).add _).add _
 have s0:h0.size=h.size+2:=by rw[Qo];simp
 have z0:h0[h.size+1]? = Q (K [D t 0,D t 0,J O 0 0].toArray 100):=by
  rw[Qo,U,if_pos zX]
 have e0:(h.push (K #[Value.slice p (H l) c,D t n] 95)).push (K #[Value.int t 0,D t 0,J O 0 0] 100)=h0:=Qo.symm;rw[e0];clear e0 Qo;have fin:∀(G:Hp) (w:List aw),(H w)=3->w.all YV=true->G[h.size+1]? = Q (K [D t 0,D t 0,J O 0 0].toArray 100)->wr G ⟨h.size+1,0,O⟩ w=Q (ae G (h.size+1) (K (aS w) 100)):=by
  intro G w h3 d B;rw[Yr (b:=h.size+1) B 0 w,Yf (by rw[h3];rfl),if_pos ⟨by rw[h3];simp,d⟩]
 refine (Wp T h0 _ n l (s.YQ b0) hl).use ?_;rintro _ d ⟨b1,L⟩;have s1:=b1.size;have B1:Zm h.size h d:=b0.trans (b1.mono uh);have z1:=b1.get uh z0;by_cases ok:Xo l n
 case neg=>
  rw[if_neg (show ¬((H l)<=100000/\0<=n/\n<=(H l)) from ok)]at L;subst L;have y2:=fin d [D t 0,D t 0,J O 0 0] rfl rfl z1;have Ye:h.size+1<d.size:=uh;have XU:¬h.size+1=d.size:=uh;simp -implicitDefEqProofs only[go_sem,y2,XU,Ye];refine⟨⟨Qj,0,5,J O 0 0,rfl,QY.nil _ _ _ _ _,a8 _,R _,?_⟩,(B1.ZA uh _).Xj Fo _⟩
  grind
 rw[if_pos (show ((H l)<=100000/\0<=n/\n<=(H l)) from ok)]at L;obtain⟨w,rfl,L⟩:=L;obtain⟨pw,f,rfl,c7⟩:=L.open;have l1:=ok.1;let⟨I,V7⟩:=ZO ((d.push (K [J pw (H l) f,D t n].toArray 95)).push (K [D t 0,D t 0,J O 0 0].toArray 100):Hp);have e2:(d.push (K #[Value.slice pw (H l) f,D t n] 95)).push (K #[Value.int t 0,D t 0,J O 0 0] 100)=I:=V7.symm;simp -implicitDefEqProofs only[go_sem];rw[e2];have b2:Zm d.size d I:=by rw[V7];exact ((Zm.refl _ _).add _).add _
 have s2:I.size=d.size+2:=by rw[V7];simp
 have t2:I[d.size]? = Q (K [J pw (H l) f,D t n].toArray 95):=by
  rw[V7,U,if_neg zX,Zf]
 have a2:I[d.size+1]? = Q (K [D t 0,D t 0,J O 0 0].toArray 100):=by
  rw[V7,U,if_pos zX]
 clear e2 V7;have z2:=b2.get uh z1;let⟨A,hA⟩:=ZO (d.size+1);rw[<-hA]at a2 ⊢;have sw:=L.bs.YQ b2;have B2:Zm h.size h I:=B1.trans (b2.mono uh);have bS:Tk I:=tk.QL B2;have cd:=L.Zn.Yb;refine VS.YC (fun F g=>Zm A I g/\F 2=aa (Q ⟨h.size+1,0,O⟩)/\F 5=aa (Q ⟨d.size,0,O⟩)/\F 7=aa (Q ⟨A,0,O⟩)/\∃(k:Nat) (a:QT) (p1:Option Addr) (u:Nat),k<=(H l)/\F 8=D t k/\g[A]? = Q (K (XO a.p (J p1 (H a.l) u)).toArray 100)/\QY (A+1) 141 Zz 8 g (J p1 (H a.l) u) a.l/\(H a.l)<=k/\∀r j,Rec l a k r j->Rec l Qj 0 r j)
  (fun F _=>(H l)-(vi (F 8)).toNat) rfl ⟨Zm.refl _ _,rfl,rfl,rfl,0,Qj,O,0,a8 _,rfl,a2,QY.nil _ _ _ _ _,a8 _,fun _ _ h=>h⟩ ?_
 rintro F g ⟨hg,f2,q,o,k,a,p1,u,hk,i,xa,oa,bt,b8⟩;have tg:=hg.get uh t2;have zg:=hg.get uh z2;have c4:=Zb xa;have fact:∀G,Zm g.size g G->V.hc G ⟨d.size,0,O⟩=Q (J pw (H l) f)/\rd G ⟨A,0,O⟩ 3=Q [D t a.p.r,D t a.p.n,J p1 (H a.l) u] /\
   wr G ⟨h.size+1,0,O⟩ [D t a.p.r,D t a.p.n,J p1 (H a.l) u]=Q (ae G (h.size+1) (K [D t a.p.r,D t a.p.n,J p1 (H a.l) u].toArray 100))/\h.size+1<G.size/\Zm A I G /\
   G[A]? = Q (K (XO a.p (J p1 (H a.l) u)).toArray 100)/\QY (A+1) 141 Zz 8 G (J p1 (H a.l) u) a.l/\Bs G (J pw (H l) f) l:=by
  intro G C;have tG:=C.get uh tg;have zG:=C.get uh zg;have xG:=C.get uh xa;have bG:Zm A I G:=hg.trans (C.mono uh);exact⟨by rw[Zr tG];rfl,ZB xG rfl,fin G _ rfl rfl zG,Zb zG,bG,xG,oa.YQ C (R _),L.bs.YQ (b2.trans (bG.mono uh))⟩
 have done:∀G,Zm g.size g G->Xp l a k=O->(∃(r:QT) (k':Nat) (E:Int) (w:aw),Value.tuple [W (XO a.p (J p1 (H a.l) u)).toArray,D t (k:Nat),D t 0].toArray=.tuple [W (XO r.p w).toArray,D t (k':Nat),D t E].toArray/\QY h.size 141 Zz 8 (ae G (h.size+1) (K [D t a.p.r,D t a.p.n,J p1 (H a.l) u].toArray 100)) w r.l/\k'<=(H l)/\(H r.l)<=k'/\if Xo l n then E=0/\Rec l Qj 0 r k' else E=5/\r=Qj/\k'=0)/\Zm h.size h (ae G (h.size+1) (K [D t a.p.r,D t a.p.n,J p1 (H a.l) u].toArray 100)):=by
  intro G C e;let⟨_,_,_,_,bG,_,oG,_⟩:=fact G C;refine⟨⟨a,k,0,_,rfl,(oG.Ym uh _).mono uh,hk,bt,?_⟩,(B2.trans (bG.mono uh)).ZA uh _⟩;rw[if_pos ok];exact⟨rfl,b8 _ _ (.stop e)⟩
 let⟨rt,ra,wf,b3,_,_,_,a0⟩:=fact g (Zm.refl _ _);by_cases Ye:k<(H l)
 case neg=>
  have Yh:¬(k:Int)<(H l):=uh;have e:Xp l a k=O:=by unfold Xp;rw[if_neg (fun hn=>Ye hn.1)]
  simp -implicitDefEqProofs only[go_sem,f2,q,o,i,rt,Yh,ra,wf,b3];exact done g (Zm.refl _ _) e
 have Yh:(k:Int)<(H l):=uh;let⟨q',d',hv,hh⟩:=a0.Th;simp only[Value.slice.injEq,true_and]at hv;obtain⟨rfl,rfl⟩:=hv;obtain⟨bx,ox,rfl,c9,Jx⟩:=hh zK;have rx:=Jx k Ye;have B:=Yn a0.byte k;let⟨N,hN⟩:=ZO (OS l k);have ca:N=1+l.getD k 0:=hN;have e1:(1:Int)+((l.getD k 0:Nat):Int)=(N:Int):=uh;have e2:(N:Int)+4=((N+4:Nat):Int):=uh;have d1:¬f=k:=uh;have n0:(0:Int)<(((H l)-k:Nat):Int):=uh;have n1:(0:Int)<=(k:Int):=uh;have n2:(k:Int)<=((H l):Int):=uh;by_cases c6:(H l)-k<N+4
 case pos=>
  have a1:(((H l)-k:Nat):Int)<((N+4:Nat):Int):=uh;have e:Xp l a k=O:=by unfold Xp;rw[<-hN,if_neg (fun hn=>by omega)]
  simp -implicitDefEqProofs only[go_sem,f2,q,o,i,rt,Yh,ra,wf,b3,rx,e1,e2,d1,n0,n1,n2,a1,S];exact done g (Zm.refl _ _) e
 have a1:¬(((H l)-k:Nat):Int)<((N+4:Nat):Int):=uh;have n3:(0:Int)<=(N:Int):=uh;have n4:(N:Int)<=((f-k:Nat):Int):=uh;simp -implicitDefEqProofs only[go_sem,f2,q,o,i,rt,Yh,rx,e1,e2,d1,n0,n1,n2,n3,n4,a1,S];have sN:Bs g (J (Q ⟨bx,ox+k,O⟩) N (f-k)) ((l.drop k).take N):=nJ a0 rfl uh rfl rfl;have Bg:Zm h.size h g:=B2.trans (hg.mono uh);refine (I6 T g _ _ sN (tk.QL Bg)).use ?_;rintro _ g1 ⟨⟨w5,rfl,o5⟩,b5⟩;have e0:On ((l.drop k).take N).length=0:=by unfold On;rw[aL,aC,if_neg uh]
 rw[e0,if_pos rfl]at o5;rw[e0];have ml:=QH ((l.drop k).take N);let⟨M,hM⟩:=ZO (Ro ((l.drop k).take N));rw[<-hM]at o5 ml;obtain⟨p5,c5,rfl,c8⟩:=o5.open;have sM:=o5.bs;let⟨bY,ao,bl,bN,cf,bR,bp,a3⟩:=fact g1 b5;have s5:=b5.size;have h4:(4:Int)<=(c5:Int):=uh;have n5:((N+4:Nat):Int)<=((f-k:Nat):Int):=uh;have n6:(N:Int)<=((N+4:Nat):Int):=uh;have n7:(0:Int)<=((N+4:Nat):Int):=uh;have d2:¬f-k=N:=uh;have bA:Bs g1 (J p5 4 c5) (M.take 4):=sM.MF uh c5;have bw:Bs g1 (J (Q ⟨bx,ox+k+N,O⟩) (N+4-N) (f-k-N)) ((l.drop (k+N)).take 4):=nJ a3 rfl uh uh uh;simp -implicitDefEqProofs only[go_sem,f2,q,o,i];refine VS.z (g1.size) [] (.p 0 (.p 1 (.p 2 (.p 3 (.p 4 (.p 5 (.p 6 (.s 7 (.p 8 .nil))))))))) mixed zI ?_;simp -implicitDefEqProofs only[go_sem,f2,q,o,i,h4,e2,n3,n5,n6,n7,d2,S];refine (aN T g1 _ _ (M.take 4) ((l.drop (k+N)).take 4) bA bw aac).pure ?_;have eR:(l.drop (k+N)).take 4=(l.drop (k+OS l k)).take 4:=by rw[<-hN]
 by_cases heq:M.take 4=(l.drop (k+N)).take 4
 case neg=>
  have hd:decide (M.take 4=(l.drop (k+N)).take 4)=false:=decide_eq_false heq;have e:Xp l a k=O:=by
   unfold Xp;rw[<-hN,<-hM,if_neg (fun hn=>heq hn.2.2)]
  rw[hd];simp -implicitDefEqProofs only[go_sem,f2,q,o,i,ao,bl,bN];exact done g1 b5 e
 have hd:decide (M.take 4=(l.drop (k+N)).take 4)=true:=decide_eq_true heq;rw[hd];let⟨X,mJ⟩:=ZO ((l.drop (k+1)).take (N-1));have b9:Xp l a k=(J7 a X).map fun x=>(x,k+(N+4)):=by
  unfold Xp;rw[<-hN,<-hM,if_pos ⟨Ye,uh,heq⟩,mJ]
 have bq:(H X)=N-1:=by rw[mJ,aL,aC];omega
 have bn:Bs g1 (J (Q ⟨bx,ox+k+1,O⟩) (N-1) (f-k-1)) X:=by rw[mJ];exact nJ a3 rfl uh uh rfl
 have call:∀G,Zm g1.size g1 G->Zg aq T 79 #[W #[D t a.p.r,D t a.p.n,J p1 (H a.l) u],J (Q ⟨bx,ox+k+1,O⟩) (N-1) (f-k-1)] G fun v' h'=>bP G.size h' v' a X/\Zm G.size G h':=fun G C=>
  ZcH T G a.p p1 u a.l _ (N-1) (f-k-1) X (bp.ts.YQ C) (bn.YQ C) bq uh uh uh
 have n8:(1:Int)<=(N:Int):=uh;have d3:¬f-k=1:=uh;have q1:A<g1.size:=uh;have b7:∀(G:Hp) (b:Nat) (z w:List aw),(H z)=3->(H w)=3->w.all YV=true->G[b]? = Q (K (aS z) 100)->wr G ⟨b,0,O⟩ w=Q (ae G b (K (aS w) 100)):=by
  intro G b z w hz h3 d B;rw[Yr (b:=b) B 0 w,Yf (by rw[h3,hz]),if_pos ⟨zK,d⟩]
 simp -implicitDefEqProofs only[go_sem,f2,q,o,i];refine VS.mono (N:=fun Y g'=>Zm g1.size g1 g'/\Y 2=aa (Q ⟨h.size+1,0,O⟩)/\Y 5=aa (Q ⟨d.size,0,O⟩)/\Y 7=aa (Q ⟨A,0,O⟩)/\Y 8=D t k/\Y 10=D t N/\Y 14=ak (J7 a X).isSome/\∃(A':Nat) (P:ZN) (p m:_) (c:Nat),g1.size<=A'/\Y 13=aa (Q ⟨A',0,O⟩)/\g'[A']? = Q (K (XO P (J p m c)).toArray 100)/\∀x,J7 a X=Q x->P=x.p/\QY g1.size 141 Zz 8 g' (J p m c) x.l) ?_ ?_ (fun _ _ _ h=>h) (fun _ _ h=>h)
 .refine VS.z (g1.size) [] (.q 0 (.p 1 (.p 2 (.p 3 (.or 4 (.p 5 (.p 6 (.p 7 (.s 8 (.s 9 (.p 10 .nil)))))) (.s 8 (.s 4 (.p 5 (.p 6 (.p 7 (.s 9 (.p 10 .nil)))))))))))) mixed zI ?_;simp -implicitDefEqProofs only[go_sem,f2,q,o,i,ao,q1,n3,n4,n8,d3,S];refine⟨?_,?_⟩
  .refine (call g1 (Zm.refl _ _)).use ?_;rintro _ g2 ⟨⟨P,p2,m2,c2,rfl,y⟩,b6⟩;have s6:=b6.size;unfold XO;simp -implicitDefEqProofs only[go_sem,f2,q,o,i,b6];exact⟨_,_,_,_,_,s6,rfl,Zf,fun x B=>⟨(y x B).1,(y x B).2.push _⟩⟩
  .refine (call (g1.push (K [D t 0,D t 0,J O 0 0].toArray 100)) (Zm.push (R _) _)).use ?_;rintro _ g2 ⟨⟨P,p2,m2,c2,rfl,y⟩,b6⟩;have B6:Zm g1.size g1 g2:=(Zm.push (R _) _).trans (b6.mono zX);have xA:=b6.get zX Zf;have yA:=b7 g2 g1.size _ [D t P.r,D t P.n,J p2 m2 c2] rfl rfl rfl xA;have hz:=Zb xA;unfold XO;simp -implicitDefEqProofs only[go_sem,f2,q,o,i,B6,yA,hz];exact⟨_,_,_,_,_,R _,rfl,Yp xA,fun x B=>⟨(y x B).1,((y x B).2.Ym (b:=g1.size) zX _).mono zX⟩⟩
 rintro Y g' ⟨hB,f2,q,o,i,f10,f14,A',P,p2,m2,c2,cc,f13,bb,br⟩;have sB:=hB.size;have b4:Zm g.size g g':=b5.trans (hB.mono s5);let⟨bW,xr,bh,bK,bE,Z,c0,bT⟩:=fact g' b4
 cases qO:J7 a X with
 | none=>
  have e:Xp l a k=O:=by rw[b9,qO];rfl
  rw[qO]at f14;simp -implicitDefEqProofs only[go_sem,f2,q,o,i,f10,f14,xr,bh,bK];exact done g' b4 e
 | some x=>
  obtain⟨rfl,ax⟩:=br x qO;let⟨p3,c3,e3,_⟩:=ax.open;simp only[Value.slice.injEq]at e3;obtain⟨rfl,rfl,rfl⟩:=e3;have e:Xp l a k=Q (x,k+(N+4)):=by rw[b9,qO];rfl
  have bo:rd g' ⟨A',0,O⟩ 3=Q [D t x.p.r,D t x.p.n,J p2 (H x.l) c2]:=ZB bb rfl;have wA:=b7 g' A _ [D t x.p.r,D t x.p.n,J p2 (H x.l) c2] rfl rfl rfl Z;have zA:=Zb Z;have e4:(k:Int)+((N+4:Nat):Int)=((k+(N+4):Nat):Int):=uh;have lx:=bQ qO;rw[qO]at f14;simp -implicitDefEqProofs only[go_sem,f2,q,o,i,f10,f13,f14,bo,wA,zA,e2,e4];refine⟨⟨bE.ZA (R _) _,f2,q,o,k+(N+4),x,p2,c2,uh,rfl,Yp Z,(ax.Ym uh _).mono uh,uh,fun r j hr=>b8 r j (.go e hr)⟩,?_⟩;simp only[vi,Zu,↓reduceIte,i];omega
def ZcK(B:Nat)(h':Hp)(a:aw)(l:List Nat)(n:Int):Prop:=∃(r:QT) (k:Nat) (E:Int) (w:aw),a=.tuple [W [w,D t (if E=0 then (if (k:Int)<n then (k:Int) else n) else 0)].toArray,D t E].toArray/\YL B 5 h' w (if E=0 then l.take k else [])/\k<=(H l) /\
 if Xo l n then E=0/\Rec l Qj 0 r k else E=5/\r=Qj/\k=0
theorem xt(h:Hp)(v:aw)(n:Int)(l:List Nat)(s:Bs h v l)(G:RT v)(hl:(H l)<=140737488355328)(tk:Tk h):
  Zg aq T 58 #[W [v,D t n].toArray] h fun P h'=>ZcK h.size h' P l n/\Zm h.size h h':=by
 obtain⟨p,c,rfl,_⟩:=s.open;have G:(H l)<=c:=G;refine Zg.Kq [_] Tryz.func58 ?_;unfold ZcK;simp -implicitDefEqProofs only[go_sem];let⟨d,e⟩:=ZO ((h.push (K [J p (H l) c,D t n].toArray 95)).push (K [J O 0 0,D t 0].toArray 95):Hp);have j:Zm h.size h d:=by rw[e];exact ((Zm.refl _ _).add _).add _
 have s0:d.size=h.size+2:=by rw[e];simp
 have t0:d[h.size]? = Q (K [J p (H l) c,D t n].toArray 95):=by
  rw[e,U,if_neg zX,Zf]
 have y:d[h.size+1]? = Q (K [J O 0 0,D t 0].toArray 95):=by
  rw[e,U,if_pos zX]
 have C:(h.push (K #[Value.slice p (H l) c,D t n] 95)).push (K #[Value.slice O 0 0,D t 0] 95)=d:=e.symm;have g:(h.push (K [Value.slice p (H l) c,D t n].toArray 95)).push (K [Value.slice O 0 0,D t 0].toArray 95)=d:=e.symm
 first|rw[C]|rw[g]
 clear C g e;refine (EZ T d _ n l (s.YQ j) hl (tk.QL j)).use ?_;rintro _ b ⟨⟨r,k,E,w1,rfl,Z,B,hr,q⟩,f⟩;have s1:=f.size;obtain⟨p1,F,rfl,_⟩:=Z.open;unfold XO;let⟨a,m⟩:=ZO (b.push (K [D t r.p.r,D t r.p.n,J p1 (H r.l) F].toArray 100):Hp);have w:Zm b.size b a:=by rw[m];exact Zm.push (R _) _
 have s2:a.size=b.size+1:=by rw[m];simp
 have I:Zm h.size h a:=j.trans ((f.mono uh).trans (w.mono uh));have z:=w.get uh (f.get uh t0);have z2:=w.get uh (f.get uh y);have y2:=Yr z2 0;have Lr:h.size+1<a.size:=uh;have u:b.push (K #[Value.int t r.p.r,D t r.p.n,J p1 (H r.l) F] 100)=a:=m.symm;clear m;by_cases ok:Xo l n
 case neg=>
  have o:=q;rw[if_neg ok]at q;obtain⟨rfl,rfl,rfl⟩:=q;have z1:=f.get uh y;have M:=Yr z1 0;have XU:¬h.size+1=b.size:=uh;have x:h.size+1<b.size:=uh;have B1:Zm h.size h b:=j.trans (f.mono uh);simp -implicitDefEqProofs only[go_sem,M,XU,x];refine⟨⟨Qj,0,5,J O 0 0,rfl,YL.nil _ _ _,a8 _,o⟩,?_⟩;exact (B1.ZA uh _).Xj Fo _
 have o:=q;rw[if_pos ok]at q;obtain⟨rfl,q⟩:=q;have l1:=ok.1;have X:V.hc a ⟨h.size,0,O⟩=Q (J p (H l) c):=by rw[Zr z];rfl
 have n2:V.hc a ⟨h.size,1,O⟩=Q (D t n):=by rw[Zr z];rfl
 have k1:(0:Int)<=(k:Int):=uh;have k2:(k:Int)<=(c:Int):=uh;have Y:h.size<a.size:=uh;simp -implicitDefEqProofs only[go_sem];rw[u];refine VS.z (a.size) [10,11] (.p 0 (.q 1 (.p 2 (.p 3 (.p 5 (.q 6 (.p 7 (.p 8 (.s 4 (.p 9 (.w 10 (.w 11 .nil)))))))))))) mixed zI ?_;simp -implicitDefEqProofs only[go_sem,X,n2,k1,k2,Y,S];refine (Nk T a _ (l.take k) ((s.YQ I).MF B c) zK).use ?_;rintro w3 h3 ⟨A,i⟩;obtain⟨p3,c3,rfl,_⟩:=A.open;have s3:=i.size;have z3:=i.get uh z2;have N:h.size+1<h3.size:=uh;have L:=Yr z3 0;simp -implicitDefEqProofs only[go_sem,i,L,N];refine⟨⟨r,k,0,_,rfl,?_,B,o⟩,(I.trans (i.mono uh)).ZA uh _⟩;exact (A.Ym uh _).mono uh
def JK(rc:List Nat):List Nat:=rW (VQ (rc.getD 0 0)) (rc.drop 1)
def Ju(l:List Nat)(i:Nat):Int:=((JE l (4*i):Nat):Int)
def ij(a:List Nat)(now:Int):Int:=Px ((a.take 22).getD 0 0:Nat) ((a.take 22).getD 1 0:Nat) (JE (a.take 22) 2:Nat) (Ju (a.drop 22) 0) (Ju (a.drop 22) 1) (Ju (a.drop 22) 2) (Ju (a.drop 22) 3) (Ju (a.drop 22) 4) now
def sF(a:List Nat)(X:Nat)(now:Int):Int:=if Ju (a.drop 22) 0≠0/\Ju (a.drop 22) 1≠(X:Nat) then 11 else ij a now
def ik(a:List Nat)(X:Nat)(now:Int):Int:=if Uh (a.drop 22)≠0 then Uh (a.drop 22) else sF a X now
def il(a:List Nat)(X:Nat)(now:Int):Int:=if UV PB (a.take 22)≠0 then UV PB (a.take 22) else ik a X now
def iq(a:List Nat)(X:Nat)(now:Int):Int:=if (H a)≠42 then 3 else il a X now
def Af(a:Int)(b:List Nat)(X:Nat)(now:Int):Int:=if a≠0 then a else iq b X now
def Xl(rc:List Nat)(now:Int):Int:=
 if (H rc)=0 then 13 else if QR (rc.getD 0 0:Nat)≠0 then QR (rc.getD 0 0:Nat) else
 Af (Tv (VQ (rc.getD 0 0)) 0 0 QQ (rc.drop 1)) (JK rc) (rc.getD 0 0) now
def ir(rc:List Nat)(now:Int):List aw:=if Xl rc now=0 then Wg (Ju ((JK rc).drop 22) 0) (Ju ((JK rc).drop 22) 1) (Ju ((JK rc).drop 22) 2) (Ju ((JK rc).drop 22) 3) (Ju ((JK rc).drop 22) 4) else Fg
theorem nK{key l:List Nat}(h:UV key l=0):bM key l=[D t (l.getD 0 0:Nat),D t (l.getD 1 0:Nat),D t (JE l 2:Nat)]:=by unfold bM;rw[if_pos h];rfl
theorem xu{key l:List Nat}(h:¬UV key l=0):bM key l=[D t 0,D t 0,D t 0]:=by unfold bM;rw[if_neg h];rfl
theorem xw{l:List Nat}(h:Uh l=0):Ev l=[D t (Ju l 0),D t (Ju l 1),D t (Ju l 2),D t (Ju l 3),D t (Ju l 4)]:=by unfold Ev;rw[if_pos h];rfl
theorem xx{l:List Nat}(h:¬Uh l=0):Ev l=[D t 0,D t 0,D t 0,D t 0,D t 0]:=by unfold Ev;rw[if_neg h];rfl
theorem Wu{rc:List Nat}{now:Int}(h:¬Xl rc now=0):ir rc now=[D t 0,D t 0,D t 0,D t 0,D t 0]:=by unfold ir;rw[if_neg h];rfl
theorem xy{rc:List Nat}{now:Int}(h:Xl rc now=0):ir rc now=[D t (Ju ((JK rc).drop 22) 0),D t (Ju ((JK rc).drop 22) 1),D t (Ju ((JK rc).drop 22) 2),D t (Ju ((JK rc).drop 22) 3),D t (Ju ((JK rc).drop 22) 4)]:=by unfold ir;rw[if_pos h];rfl
theorem ZcL(h:Hp)(v:aw)(rc:List Nat)(now:Int)(s:Bs h v rc)(WF:RT v)(cv:(H rc)<=140737488355328)(tk:Tk h)(tn:aD 0 niv OM h):
  Zg aq T 12 #[v,D t now] h fun v' h'=>v'=.tuple [W (ir rc now).toArray,D t (Xl rc now)].toArray/\Zm h.size h h':=by
 obtain⟨p,c,rfl,_⟩:=s.open;have HK:(H rc)<=c:=WF;refine Zg.Kq [_,_] Tryz.func12 ?_;simp -implicitDefEqProofs only[go_sem];let⟨h0,Qo⟩:=ZO (h.push (K [D t 0,D t 0,D t 0,D t 0,D t 0].toArray 43):Hp);have b0:Zm h.size h h0:=by rw[Qo];exact (Zm.refl _ _).add _
 have s0:h0.size=h.size+1:=by rw[Qo];simp
 have z0:h0[h.size]? = Q (K [D t 0,D t 0,D t 0,D t 0,D t 0].toArray 43):=by rw[Qo];exact Zf
 have e0:h.push (K #[Value.int t 0,D t 0,D t 0,D t 0,D t 0] 43)=h0:=Qo.symm;have bG:h.push (K [Value.int t 0,D t 0,D t 0,D t 0,D t 0].toArray 43)=h0:=Qo.symm
 first|rw[e0]|rw[bG]
 clear e0 bG Qo;have fin:∀(G:Hp) (w:List aw),(H w)=5->w.all YV=true->G[h.size]? = Q (K [D t 0,D t 0,D t 0,D t 0,D t 0].toArray 43)->wr G ⟨h.size,0,O⟩ w=Q (ae G h.size (K (aS w) 43)):=by
  intro G w d l hx;rw[Yr (b:=h.size) hx 0 w,Yf (by rw[d];rfl),if_pos ⟨by rw[d];simp,l⟩]
 by_cases l0:(H rc)=0
 case pos=>
  have a2:((H rc):Int)=0:=by omega
  have g:=show Xl rc now=13 by unfold Xl;grind
  rw[Wu (by grind),g];have yz:=fin h0 [D t 0,D t 0,D t 0,D t 0,D t 0] rfl rfl z0;have E:=Zb z0;simp -implicitDefEqProofs only[go_sem,a2,yz,E]
  try exact (b0).ZA (R _) _
 have a2:¬((H rc):Int)=0:=by omega
 have n0:(0:Int)<((H rc):Int):=by omega
 have n1:(1:Int)<=((H rc):Int):=by omega
 let⟨q',d',hv,hh⟩:=(s.YQ b0).Th;simp only[Value.slice.injEq,true_and]at hv;obtain⟨rfl,rfl⟩:=hv;obtain⟨bb,oo,rfl,Sb,Jx⟩:=hh (by grind);have x0:=Jx 0 (by omega);rw[a5]at x0;have LW:=Yn s.byte 0;let⟨X,hX⟩:=ZO (rc.getD 0 0);rw[<-hX]at x0 LW;let⟨a,bA⟩:=ZO (rW (VQ X) (rc.drop 1));let⟨Y,ao⟩:=ZO (Tv (VQ X) 0 0 QQ (rc.drop 1));have bE:JK rc=a:=by rw[bA,hX];rfl
 have cq:Xl rc now=if QR (X:Nat)≠0 then QR (X:Nat) else Af Y a X now:=by
  unfold Xl;rw[if_neg l0,<-hX,<-ao,bE]
 simp -implicitDefEqProofs only[go_sem,a2,n0,x0];refine (EW T h0 _ (tk.QL b0)).use ?_;rintro _ l ⟨⟨w1,rfl,k1,o1,f1⟩,b1⟩;have B1:=b0.trans (b1.mono b0.size);have s1:=b1.size;have z1:=b1.get (by omega) z0;by_cases ke:QR (X:Nat)=0
 case neg=>
  generalize QR (X:Nat)=KE at *;have g:=show Xl rc now=KE by grind
  rw[Wu (by grind),g];have yz:=fin l [D t 0,D t 0,D t 0,D t 0,D t 0] rfl rfl z1;have E:=Zb z1;simp -implicitDefEqProofs only[go_sem,ke,yz,E]
  try exact (B1).ZA (R _) _
 have E0:Xl rc now=Af Y a X now:=by rw[cq,if_neg (fun n=>n ke)]
 rw[ke,if_pos rfl,S]at o1;rw[ke];have x7:X<=7:=by unfold QR at ke;split at ke<;>omega
 obtain⟨p1,c1,rfl,TZ⟩:=o1.open;have lk:=Gm X;let⟨P1,cd⟩:=ZO (if c=1 then Q (⟨bb,oo,O⟩:Addr) else Q ⟨bb,oo+1,O⟩);have sD:Bs l (J P1 ((H rc)-1) (c-1)) (rc.drop 1):=by
  have ct:=(s.YQ b0).YQ b1;by_cases hc:c=1
  .have ca:(H rc)=1:=by omega
   have hd:rc.drop 1=[]:=List.drop_eq_nil_of_le (by omega);rw[hd,ca,hc];exact⟨(QU.CE 0 0 1 l P1).sl,fun x hx=>by cases hx⟩
  .grind [Om]
 have cn:RT (J P1 ((H rc)-1) (c-1)):=by show (H rc)-1<=c-1;omega
 have c7:Zg aq T 20 #[W #[J p1 (VQ X).length c1,D t 0,D t 0,ak false,ak false,ak false,ak false,ak false,ak false,ak false,ak false],J P1 ((H rc)-1) (c-1)] l fun v' h'=>bI l.size h' v' (VQ X) 0 0 QQ (rc.drop 1)/\Zm l.size l h':=gG T l _ _ (VQ X) (rc.drop 1) 0 0 QQ rfl o1 sD k1 cn;simp -implicitDefEqProofs only[go_sem,n1]
 try rw[<-cd]
 refine c7.use ?_;rintro _ h2 ⟨⟨cw,w2,rfl,⟨w3,rfl,o3⟩,o2⟩,b2⟩;rw[<-ao]at o2 o3 ⊢;rw[<-bA]at o2;have B2:=B1.trans (b2.mono B1.size);have s2:=b2.size;have z2:=b2.get (by omega) z1;let⟨CC,M⟩:=ZO (Ys w3 (if Y=0 then 0 else 0) (if Y=0 then max 0 (((RC (rc.drop 1):Nat):Int)+1) else 0) (if Y=0 then Gf 0 QQ (RC (rc.drop 1)) else QQ));obtain⟨p3,c3,rfl,_⟩:=o3.open;have c5:(if Y=0 then Gf 0 QQ (RC (rc.drop 1)) else QQ).length=8:=by
  split
  .exact Rl _ _
  .rfl
 have sH:(H CC)=11:=by rw[M];exact Y7 _ _ _ _ c5
 have bh:CC.all YV=true:=by rw[M];exact Wo _ _ _
 have bd:XB [Value.slice O 0 0,D t 0,D t 0,ak false,ak false,ak false,ak false,ak false,ak false,ak false,ak false] 0 CC=CC:=Yf (by rw[sH];rfl);have bl:(H CC)<=11:=by omega
 rw[<-M];let⟨d,j0⟩:=ZO (h2.push (K (aS CC) 70):Hp);have b3:Zm h2.size h2 d:=by rw[j0];exact Zm.push (R _) _
 have s3:d.size=h2.size+1:=by rw[j0];simp
 have z3:=b3.get (by omega) z2;have B3:=B2.trans (b3.mono B2.size);have bo:=o2.YQ b3 (R _);obtain⟨p2,Z,rfl,ax⟩:=o2.open;have bn:=fin h2 [D t 0,D t 0,D t 0,D t 0,D t 0] rfl rfl z2;have bK:¬h.size=h2.size:=by omega
 have Lr:h.size<h2.size:=by omega
 by_cases i:Y=0
 case neg=>
  have g:Xl rc now=Y:=by rw[E0];unfold Af;rw[if_pos i]
  rw[Wu (by grind),g];simp -implicitDefEqProofs only[go_sem,sH,bh,bd,bl,i,bn,bK,Lr]
  grind [Zm.Xj,Zm.ZA]
 have E1:Xl rc now=iq a X now:=by rw[E0];unfold Af;rw[if_neg (fun n=>n i)]
 rw[if_pos i]at bo ax
 try simp only[if_pos i]
 by_cases bq:(H a)=42
 case neg=>
  have P:¬((H a):Int)=42:=by omega
  have g:Xl rc now=3:=by rw[E1];unfold iq;rw[if_pos bq]
  rw[Wu (by grind),g];simp -implicitDefEqProofs only[go_sem,sH,bh,bd,bl,i,P,bn,bK,Lr]
  grind [Zm.Xj,Zm.ZA]
 have P:((H a):Int)=42:=by omega
 have E2:Xl rc now=il a X now:=by rw[E1];unfold iq;rw[if_neg (fun n=>n bq)]
 simp -implicitDefEqProofs only[go_sem,sH,bh,bd,bl,i,P];rw[<-j0];clear j0 M o2 o3 ao;have a1:(22:Int)<=(Z:Int):=by omega
 have a0:=bo.bs;have sT:Bs d (J p2 22 Z) (a.take 22):=a0.MF (by omega) Z;have cT:RT (J p2 22 Z):=by show 22<=Z;omega
 let⟨PE,I⟩:=ZO (UV PB (a.take 22));obtain⟨tc,tr,tu,hT,ck⟩:∃tc tr tu:Int,bM PB (a.take 22)=[D t tc,D t tr,D t tu]/\(PE=0->tc=((a.take 22).getD 0 0:Nat)/\tr=((a.take 22).getD 1 0:Nat)/\tu=(JE (a.take 22) 2:Nat)):=by
  grind [nK,xu]
 have r:=tk.QL B3
 try simp -implicitDefEqProofs only[go_sem,P]
 refine VS.mono (N:=fun m g'=>Zm d.size d g'/\m 0=J (Q ⟨bb,oo,O⟩) (H rc) c/\m 1=D t now/\m 4=aa (Q ⟨h.size,0,O⟩)/\m 9=J p2 (H a) Z/\m 7=D t PE/\∃A,d.size<=A/\m 10=aa (Q ⟨A,0,O⟩)/\g'[A]? = Q (K [D t tc,D t tr,D t tu].toArray 74)) ?_ ?_ (fun _ _ _ h=>h) (fun _ _ h=>h)
 .refine VS.z (d.size) [] (.p 1 (.p 2 (.or 0 (.or 3 (.p 4 (.p 5 (.p 6 (.s 7 (.s 8 (.p 9 .nil)))))) (.s 7 (.s 3 (.p 4 (.p 5 (.p 6 (.s 8 (.p 9 .nil)))))))) (.s 7 (.s 0 (.s 3 (.p 4 (.p 5 (.p 6 (.s 8 (.p 9 .nil))))))))))) mixed (by kernel_rfl) ?_;simp -implicitDefEqProofs only[go_sem,a1];have zt:∀(G:Hp) (k:Nat) (w:List aw),(H w)=3->w.all YV=true->G[k]? = Q (K [D t 0,D t 0,D t 0].toArray 74)->wr G ⟨k,0,O⟩ w=Q (ae G k (K (aS w) 74)):=by
   intro G k w d l hx;rw[Yr (b:=k) hx 0 w,Yf (by rw[d];rfl),if_pos ⟨by rw[d];simp,l⟩]
  refine⟨?_,?_⟩
  .refine (Ha T d r).use ?_;rintro w4 z ⟨⟨k4,o4⟩,q⟩;have s4:=q.size;simp -implicitDefEqProofs only[go_sem,q,a1];refine⟨?_,?_⟩
   .refine (ER T z _ _ PB (a.take 22) o4 (sT.YQ q) cT (r.QL q)).use ?_;rintro _ h5 ⟨rfl,B⟩;have s5:=B.size;have y:Zm d.size d h5:=q.trans (B.mono s4);rw[hT,<-I];simp -implicitDefEqProofs only[go_sem,y]
    grind
   .have bp:Zm z.size z (z.push (K [D t 0,D t 0,D t 0].toArray 74)):=Zm.push (R _) _;have o:Zm d.size d (z.push (K [D t 0,D t 0,D t 0].toArray 74)):=q.trans (bp.mono s4)
    first|refine⟨o,?_⟩|skip
    refine (ER T (z.push (K [D t 0,D t 0,D t 0].toArray 74)) _ _ PB (a.take 22) (o4.YQ bp) ((sT.YQ q).YQ bp) cT ((r.QL q).QL bp)).use ?_;rintro _ h5 ⟨rfl,B⟩;have s5:=B.size;have y:Zm d.size d h5:=o.trans (B.mono (by simp;omega));have xA:=B.get (by simp) Zf;have yA:=zt h5 z.size [D t tc,D t tr,D t tu] rfl rfl xA;have E:=Zb xA;rw[hT,<-I];simp -implicitDefEqProofs only[go_sem,y,yA,E]
    grind [Zm.ZA]
  .have o:Zm d.size d (d.push (K [D t 0,D t 0,D t 0].toArray 74)):=Zm.push (R _) _
   first|refine⟨o,?_⟩|skip
   refine (Ha T (d.push (K [D t 0,D t 0,D t 0].toArray 74)) (r.QL o)).use ?_;rintro w4 z ⟨⟨k4,o4⟩,q⟩;have s4:=q.size;have jZ:Zm d.size d z:=o.trans (q.mono (by simp));simp -implicitDefEqProofs only[go_sem,jZ,a1];refine (ER T z _ _ PB (a.take 22) o4 (sT.YQ jZ) cT (r.QL jZ)).use ?_;rintro _ h5 ⟨rfl,B⟩;have s5:=B.size;have y:Zm d.size d h5:=jZ.trans (B.mono jZ.size);have xA:=B.get (by grind) (q.get (by simp) Zf);have yA:=zt h5 d.size [D t tc,D t tr,D t tu] rfl rfl xA;have E:=Zb xA;rw[hT,<-I];simp -implicitDefEqProofs only[go_sem,y,yA,E]
   grind
 rintro F h6 ⟨b6,f0,f1,f4,f9,f7,A,cx,f10,t6⟩;have cf:=Zb t6;have z6:=b6.get (by omega) z3;have B6:=B3.trans (b6.mono B3.size);by_cases pe:PE=0
 case neg=>
  have g:=show Xl rc now=PE by rw[E2];unfold il;grind
  rw[Wu (by grind),g];have yz:=fin h6 [D t 0,D t 0,D t 0,D t 0,D t 0] rfl rfl z6;have E:=Zb z6;simp -implicitDefEqProofs only[go_sem,f0,f1,f4,f9,f7,f10,pe,yz,E]
  try exact (B6).ZA (R _) _
 have E3:Xl rc now=ik a X now:=by rw[E2];unfold il;rw[<-I,if_neg (fun n=>n pe)]
 obtain⟨rfl,rfl,rfl⟩:=ck pe;have c4:(22:Int)<=((H a):Int):=by omega
 let⟨q2,d2,bw,V7⟩:=a0.Th;simp only[Value.slice.injEq,true_and]at bw;obtain⟨rfl,rfl⟩:=bw;obtain⟨cz,cu,rfl,_,_⟩:=V7 (by grind);have d22:¬Z=22:=by omega
 have sB:=Om (a0.YQ b6) (k:=22) (by omega) rfl (Z-22);simp -implicitDefEqProofs only[go_sem,f0,f1,f4,f9,f7,f10,pe,c4,d22];refine (BK T h6 _ (a.drop 22) sB (by grind)).use ?_;rintro _ j ⟨rfl,b7⟩;have s7:=b7.size;have z7:=b7.get (by omega) z6;have t7:=b7.get cf t6;have B7:=B6.trans (b7.mono B6.size);let⟨DE,L⟩:=ZO (Uh (a.drop 22));have XU:¬h.size=j.size:=by omega
 have EN:h.size<j.size:=by omega
 by_cases de:DE=0
 case neg=>
  have g:Xl rc now=DE:=by rw[E3];unfold ik;rw[<-L,if_pos de]
  rw[Wu (by grind),g,xx (by grind),<-L];have yz:=fin j [D t 0,D t 0,D t 0,D t 0,D t 0] rfl rfl z7;simp -implicitDefEqProofs only[go_sem,f0,f1,f4,f9,f7,f10,de,yz,XU,EN]
  grind [Zm.Xj,Zm.ZA]
 have E4:Xl rc now=sF a X now:=by rw[E3];unfold ik;rw[<-L,if_neg (fun n=>n de)]
 rw[xw (by grind),<-L,de];have eA:ij a now=Px ((a.take 22).getD 0 0:Nat) ((a.take 22).getD 1 0:Nat) (JE (a.take 22) 2:Nat) (Ju (a.drop 22) 0) (Ju (a.drop 22) 1) (Ju (a.drop 22) 2) (Ju (a.drop 22) 3) (Ju (a.drop 22) 4) now:=rfl;have eC:Xl rc now=0->ir rc now=[D t (Ju (a.drop 22) 0),D t (Ju (a.drop 22) 1),D t (Ju (a.drop 22) 2),D t (Ju (a.drop 22) 3),D t (Ju (a.drop 22) 4)]:=fun e=>by rw[xy e,bE]
 have e4:sF a X now=if Ju (a.drop 22) 0≠0/\Ju (a.drop 22) 1≠(X:Nat) then 11 else ij a now:=rfl
 generalize Ju (a.drop 22) 0=y0 at *;generalize Ju (a.drop 22) 1=y1 at *;generalize Ju (a.drop 22) 2=y2 at *;generalize Ju (a.drop 22) 3=y3 at *;generalize Ju (a.drop 22) 4=y4 at *;let⟨f,u⟩:=ZO (j.push (K [D t y0,D t y1,D t y2,D t y3,D t y4].toArray 43):Hp);have e8:j.push (K #[Value.int t y0,D t y1,D t y2,D t y3,D t y4] 43)=f:=u.symm
 try simp -implicitDefEqProofs only[go_sem,f0,f1,f4,f9,f7,f10,de]
 rw[e8];have b8:Zm j.size j f:=by rw[u];exact Zm.push (R _) _
 have s8:f.size=j.size+1:=by rw[u];simp
 have c8:f[j.size]? = Q (K [D t y0,D t y1,D t y2,D t y3,D t y4].toArray 43):=by rw[u];exact Zf
 clear e8 u;have z8:=b8.get (by omega) z7;have t8:=b8.get (by omega) t7;have B8:=B7.trans (b8.mono B7.size);have a3:V.hc f ⟨j.size,0,O⟩=Q (D t y0):=by rw[Zr c8];rfl
 have br:V.hc f ⟨j.size,1,O⟩=Q (D t y1):=by rw[Zr c8];rfl
 have bW:rd f ⟨A,0,O⟩ 3=_:=ZB t8 rfl;have c0:rd f ⟨j.size,0,O⟩ 5=_:=ZB c8 rfl;have cg:Zm l.size l f:=(b2.trans ((b3.mono s2).trans ((b6.mono (by omega)).trans ((b7.mono (by omega)).trans (b8.mono (by omega))))))
 have x8:V.hc f ⟨bb,oo,O⟩=Q (D .u8 (X:Nat)):=by
  rw[cg.hc (by grind),b1.hc (by exact Sb)];exact x0
 have bR:=fin f [D t 0,D t 0,D t 0,D t 0,D t 0] rfl rfl z8;have cr:=fin f [D t y0,D t y1,D t y2,D t y3,D t y4] rfl rfl z8;have c6:=Zb z8;refine VS.mono (N:=fun m g'=>g'=f/\m 0=J (Q ⟨bb,oo,O⟩) (H rc) c/\m 1=D t now/\m 4=aa (Q ⟨h.size,0,O⟩)/\m 10=aa (Q ⟨A,0,O⟩)/\m 11=aa (Q ⟨j.size,0,O⟩)/\m 78=ak (decide (y0≠0/\y1≠(X:Nat)))) ?_ ?_ (fun _ _ _ h=>h) (fun _ _ h=>h)
 .refine VS.q mixed (by kernel_rfl) ?_;by_cases w0:y0=0
  .have hd:decide (y0≠0/\y1≠(X:Nat))=false:=decide_eq_false (fun n=>n.1 w0);rw[hd];simp -implicitDefEqProofs only[go_sem,f0,f1,f4,f9,f7,f10,a3,w0]
  .by_cases w1:y1=(X:Nat)
   .have hd:decide (y0≠0/\y1≠(X:Nat))=false:=decide_eq_false (fun n=>n.2 w1);rw[hd];simp -implicitDefEqProofs only[go_sem,f0,f1,f4,f9,f7,f10,a3,br,x8,n0,w0,w1]
   .have hd:decide (y0≠0/\y1≠(X:Nat))=true:=decide_eq_true ⟨w0,w1⟩;rw[hd];simp -implicitDefEqProofs only[go_sem,f0,f1,f4,f9,f7,f10,a3,br,x8,n0,w0,w1]
 rintro m g8 ⟨bT,g0,g1,g4,gt,gc,gb⟩;rw[bT];clear bT;by_cases C:y0≠0/\y1≠(X:Nat)
 case pos=>
  have g:Xl rc now=11:=by rw[E4,e4,if_pos C]
  rw[decide_eq_true C]at gb;rw[Wu (by grind),g];simp -implicitDefEqProofs only[go_sem,g4,gb,bR,c6]
  try exact B8.ZA (R _) _
 have E5:Xl rc now=ij a now:=by rw[E4,e4,if_neg C]
 rw[decide_eq_false C]at gb;have cc:Zg aq T 24 #[W #[D t ((a.take 22).getD 0 0:Nat),D t ((a.take 22).getD 1 0:Nat),D t (JE (a.take 22) 2:Nat)],W #[D t y0,D t y1,D t y2,D t y3,D t y4],D t now] f fun v' h'=>v'=D t (ij a now)/\Zm f.size f h':=by
  rw[eA];exact wJ T f _ _ _ y0 y1 y2 y3 y4 now (tn.QL B8)
 simp -implicitDefEqProofs only[go_sem,g0,g1,g4,gt,gc,gb,bW,c0];refine cc.use ?_;rintro _ h9 ⟨rfl,b9⟩;have s9:=b9.size;have z9:=b9.get (by omega) z8;have c9:=b9.get (by omega) c8;have bY:rd h9 ⟨j.size,0,O⟩ 5=_:=ZB c9 rfl;have B9:=B8.trans (b9.mono B8.size);have bN:=fin h9 [D t 0,D t 0,D t 0,D t 0,D t 0] rfl rfl z9;have bS:=fin h9 [D t y0,D t y1,D t y2,D t y3,D t y4] rfl rfl z9;have bt:=Zb z9;generalize ij a now=OA at *;by_cases oa:OA=0
 .have g:Xl rc now=0:=by rw[E5,oa]
  rw[eC g,g];simp -implicitDefEqProofs only[go_sem,g4,gc,oa,bY,bS,bt]
  try exact B9.ZA (R _) _
 .rw[Wu (by grind),E5];simp -implicitDefEqProofs only[go_sem,g4,gc,oa,bN,bt]
  try exact B9.ZA (R _) _
end Go.Proofs.YtkhkmpfenaipaaaGreatDoor
