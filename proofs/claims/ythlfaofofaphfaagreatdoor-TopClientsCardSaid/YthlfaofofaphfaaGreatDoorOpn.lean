/- Part Opn. -/
import Derived.Test.YthlfaofofaphfaaGreatDoorPik
import Derived.Test.YthlfaofofaphfaaGreatDoorW21
import Derived.Test.YthlfaofofaphfaaGreatDoorChw
import Derived.Test.YthlfaofofaphfaaGreatDoorTape
import Derived.Test.YthlfaofofaphfaaGreatDoorVst
import Derived.Test.YthlfaofofaphfaaGreatDoorTakf
import Derived.Test.YthlfaofofaphfaaGreatDoorPak
import Derived.Test.YthlfaofofaphfaaGreatDoorTab
open Go.Value renaming int→D,slice→J,agg→aa,pointer→al,bool→am
open Go.IntKind renaming i64→t
open Go.Obj renaming cells→K
open Go.Proofs.Tryz renaming prog→a5,underlying28→a9,underlying103→bf
open List renaming length→H,length_append→U,append_assoc→au,length_drop→aw,length_cons→aI,take_append_drop→a4,length_take→a6,length_nil→ba,drop_eq_getElem_cons→bc,getD_eq_getElem?_getD→bh,not_mem_nil→bk,append_nil→bo,nil_append→bw,length_singleton→bz,mem_cons→bB,getElem_mem→bR,take_left'→bS,length_set→bT
open Nat renaming le_refl→R,zero_add→a8,add_zero→bl,zero_le→bA,reduceEqDiff→bK
open Int renaming toNat_natCast→S
open Option renaming none→O,some→Q
open Array renaming getElem?_push→W
open Go.Builtin renaming zeroCells→be
open Go renaming Value→a7
namespace Go.Proofs.YthlfaofofaphfaaGreatDoor
open Go Go.V
set_option linter.unusedSimpArgs false
set_option linter.unusedVariables false
set_option maxRecDepth 100000
variable(T:World)
theorem Dz(h:Hp)(x y:Vt):Zd a5 T 124 #[aa (Zv x).toArray,aa (Zv y).toArray] h fun v' h'=>v'=D t (Na x.Zu y.Zu)/\Zk h.size h h':=by
 refine Zd.XS [_,_] Tryz.func124 ?_;unfold Zv;simp -implicitDefEqProofs only[go_sem];refine (Sp T _ _ _).pure ?_;simp -implicitDefEqProofs only[go_sem]
 (repeat' (first|exact Zk.refl _ _|assumption|refine Zk.add ?_ _|refine Zk.Zt ?_ aab _|refine Zk.trans aac ?_))
def Found(l:List Vt)(s:Int)(i:Nat)(b:Bool):Prop:=(b=true/\∃hi:i<(H l),l[i].Zu=s)\/(b=false/\(∀j (hj:j<(H l)),j<i->l[j].Zu<s)/\∀j (hj:j<(H l)),i<=j->s<l[j].Zu)
theorem bt(a b:Int):Na a b<0↔a<b:=by unfold Na;split<;>(try split)<;>omega
theorem DA(a b:Int):Na a b=0↔a=b:=by unfold Na;split<;>(try split)<;>omega
theorem yv{x:Nat}:Xx .u64 (x:Int) 1=((x/2:Nat):Int):=by
 rw[show (1:Int)=((1:Nat):Int) from rfl,OG .u64 x 1 aaa,Nat.shiftRight_eq_div_pow]
theorem iM(h:Hp)(u:a7)(l:List Vt)(v:Vt)(s:Ts Zv 8 h u l)(hs:Srt l)(hl:(H l)<=2199023255552):
  Zd a5 T 123 #[u,aa (Zv v).toArray,.func (.func 124) #[] #[]] h fun v' h'=>(∃(i:Nat) (b:Bool),i<=(H l)/\v'=.tuple [D t i,am b].toArray/\Found l v.Zu i b)/\Zk h.size h h':=by
 obtain⟨p,c,rfl,XE⟩:=WD s;refine Zd.XS [_,_,_] Tryz.func123 ?_;unfold Zv;simp -implicitDefEqProofs only[go_sem];refine VS.Yj (fun F g=>Zk h.size h g/\g[h.size]? = Q (K (Zv v).toArray 133)/\F 0=J p (H l) c/\F 2=.func (.func 124) #[] #[]/\F 4=al (Q ⟨h.size,0,O⟩)/\F 8=D t (H l)/\∃i j:Nat,i<=j/\j<=(H l)/\F 9=D t i/\F 10=D t j/\(∀k (hk:k<(H l)),k<i->l[k].Zu<v.Zu)/\(∀k (hk:k<(H l)),j<=k->v.Zu<=l[k].Zu))
  (fun F _=>(vi (F 10)).toNat-(vi (F 9)).toNat) rfl ⟨(Zk.refl _ _).add _,Zc,rfl,rfl,rfl,rfl,0,(H l),nc,nc,rfl,rfl,fun k _ hk=>by omega,fun k hk ML=>by omega⟩ ?_
 rintro F g ⟨hg,hx,f0,f2,f4,f8,i,j,tp,hj,f9,f10,lo,hi⟩;have PU:=hg.size;have hz:=Za hx;have rx:rd g ⟨h.size,0,O⟩ 8=Q (Zv v):=Zy hx rfl;unfold Zv at rx;by_cases ZU:i<j
 .have Z8:(i:Int)<j:=nc;have e1:(i:Int)+(j:Int)=((i+j:Nat):Int):=nc;have e2:((i+j:Nat):Int)%18446744073709551616=((i+j:Nat):Int):=nc;have e3:=yv (x:=i+j);obtain⟨m,hm⟩:=ZQ ((i+j)/2);rw[<-hm]at e3;have ej:m<(H l):=nc;have ZtI:(m:Int)<(H l):=nc;obtain⟨bb,oo,rfl,Tm,_,XE⟩:=XE (by intro e;rw[e]at ej;simp at ej);have rm:rd g ⟨bb,oo+m*8,O⟩ 8=Q (Zv l[m]):=by rw[QU hg (by exact Tm)];exact XE m ej
  obtain⟨y,hy⟩:=ZQ (l[m]);rw[<-hy]at rm;unfold Zv at rm;simp -implicitDefEqProofs only[go_sem,f9,f10,Z8,e1,e2,e3];refine VS.w (g.size) [] (.q 0 (.q 1 (.q 2 (.q 3 (.q 4 (.q 5 (.s 6 (.q 7 .nil)))))))) mixed uf ?_;have q1:bb<g.size:=nc;simp -implicitDefEqProofs only[go_sem,f0,f2,f4,ZtI,rm,rx,hz,q1];refine (Dz T g y v).use ?_;rintro _ g1 ⟨rfl,b1⟩;have Ns:=hg.trans (b1.mono PU);have UY:=b1.get hz hx;by_cases q:y.Zu<v.Zu
  .have q':=(bt _ _).2 q;simp -implicitDefEqProofs only[go_sem,q',f0,f2,f4,f8,f9,f10];refine⟨b1,⟨Ns,UY,f0,f2,f4,f8,m+1,j,nc,hj,rfl,f10,fun k hk hkm=>?_,hi⟩,?_⟩
   .by_cases e:k=m
    .subst e;rw[<-hy];exact q
    .have:=hs k m hk ej nc;rw[<-hy]at this;omega
   .simp only[vi,Zr,↓reduceIte,bK,f9,f10];omega
  .have q':¬Na y.Zu v.Zu<0:=fun h=>q ((bt _ _).1 h);simp -implicitDefEqProofs only[go_sem,q',f0,f2,f4,f8,f9,f10];refine⟨b1,⟨Ns,UY,f0,f2,f4,f8,i,m,nc,nc,f9,rfl,lo,fun k hk hkm=>?_⟩,?_⟩
   .by_cases e:k=m
    .subst e;rw[<-hy];omega
    .have:=hs m k ej hk nc;rw[<-hy]at this;omega
   .simp only[vi,Zr,↓reduceIte,bK,f9,f10];omega
 .have Z8:¬(i:Int)<j:=nc;obtain rfl:i=j:=nc;by_cases eu:i<(H l)
  .have yw:(i:Int)<(H l):=nc;obtain⟨bb,oo,rfl,Tm,_,XE⟩:=XE (by intro e;rw[e]at eu;simp at eu);have rm:rd g ⟨bb,oo+i*8,O⟩ 8=Q (Zv l[i]):=by rw[QU hg (by exact Tm)];exact XE i eu
   have Xp:=hi i eu (R _);obtain⟨y,hy⟩:=ZQ (l[i]);rw[<-hy]at rm Xp;unfold Zv at rm;simp -implicitDefEqProofs only[go_sem,f9,f10,Z8];refine VS.w (g.size) [] (.q 0 (.q 1 (.q 2 (.q 3 (.q 4 (.q 5 (.q 6 (.q 7 (.q 8 (.q 9 (.q 10 (.s 11 (.q 12 (.q 13 (.q 14 (.q 15 .nil)))))))))))))))) mixed uf ?_;have q1:bb<g.size:=nc;simp -implicitDefEqProofs only[go_sem,f0,f2,f4,f8,f9,f10,yw,rm,rx,hz,q1];refine (Dz T g y v).use ?_;rintro _ g1 ⟨rfl,b1⟩;have Ns:=hg.trans (b1.mono PU);by_cases q:y.Zu=v.Zu
   .have q':=(DA _ _).2 q;simp -implicitDefEqProofs only[go_sem,q'];exact⟨b1,⟨i,true,nc,rfl,.inl ⟨rfl,eu,by rw[<-hy];exact q⟩⟩,Ns⟩
   .have q':¬Na y.Zu v.Zu=0:=fun h=>q ((DA _ _).1 h);simp -implicitDefEqProofs only[go_sem,q'];refine⟨b1,⟨i,false,nc,rfl,.inr ⟨rfl,fun k hk hkm=>lo k hk hkm,fun k hk hkm=>?_⟩⟩,Ns⟩;by_cases e:k=i
    .subst e;rw[<-hy];omega
    .have:=hs i k eu hk nc;rw[<-hy]at this;omega
  .have yw:¬(i:Int)<(H l):=nc;simp -implicitDefEqProofs only[go_sem,f9,f10,Z8];refine VS.w (g.size) [] (.q 0 (.q 1 (.q 2 (.q 3 (.q 4 (.q 5 (.q 6 (.q 7 (.q 8 (.q 9 (.q 10 (.s 11 (.q 12 (.q 13 (.q 14 (.q 15 .nil)))))))))))))))) mixed uf ?_;simp -implicitDefEqProofs only[go_sem,f0,f2,f4,f8,f9,f10,yw];exact⟨⟨i,false,nc,rfl,.inr ⟨rfl,fun k hk hkm=>lo k hk hkm,fun k hk hkm=>by omega⟩⟩,hg⟩
theorem JR(l:List Vt):(ZT Zv l).length=(H l)*8:=UO (n:=8) (fun _=>rfl) l
theorem bu(l:List Vt):(ZT Zv l).all YC=true:=by
 induction l with
 | nil=>rfl
 | cons x l ih=>rw[ZT,List.all_append,ih];rfl
theorem zeroV(k:Nat):(be (rep 8 [Value.int t 0]).toArray k).toList.length=k*8:=by rw[Array.length_toList,Xn];rfl
theorem qn(k:Nat):(be (rep 8 [Value.int t 0]).toArray k).toList.all YC=true:=by
 unfold be;rw[List.all_eq_true];intro x hx;simp only[Array.toList_map,Array.toList_range,List.mem_map]at hx;obtain⟨j,_,rfl⟩:=hx;have:j%8<8:=Nat.mod_lt _ aaa;show YC ((rep 8 [Value.int t 0]).toArray[j%8]!)=true;rcases (by omega:j%8=0\/j%8=1\/j%8=2\/j%8=3\/j%8=4\/j%8=5\/j%8=6\/j%8=7) with e|e|e|e|e|e|e|e<;>rw[e]<;>rfl
theorem Fa:Extern.findNext Tryz.f138=O/\Extern.find Tryz.f138=Q (Extern.SlicesOverlaps.overlaps #[103,103] #[4]):=⟨uf,uf⟩
theorem qo(h:Hp)(B:Nat)(p:Option Addr)(cap i:Nat)(l:List Vt)(x:Vt)(bv:Nat)(Zq:Qv B 133 Zv 8 h (.slice p l.length cap) l)(hB:B<=h.size)(hi:i<=l.length)(hl:l.length<=1000000)(hx:h[bv]? = Q (.cells (Zv x).toArray 133))(Y4:cap≠0->∀b o,p=Q ⟨b,o,O⟩->b≠bv):
  Zd a5 T 126 #[.slice p l.length cap,.int .i64 i,.slice (Q ⟨bv,0,O⟩) 1 1] h fun v' h'=>Qv B 133 Zv 8 h' v' (l.take i++x :: l.drop i)/\Zk B h h':=by
 refine Zd.XS [_,_,_] Tryz.func126 ?_;have hlc:l.length<=cap:=by
  obtain⟨_,_,e,h⟩:=Zq.open;simp only[Value.slice.injEq]at e;omega
 have n1:(0:Int)<=(i:Int):=by omega
 have n2:(i:Int)<=(l.length:Int):=by omega
 have sx:Ts Zv 8 h (.slice (Q ⟨bv,0,O⟩) 1 1) [x]:=⟨by
  have:=VZ (pre:=[]) (cs:=Zv x) (post:=[]) (m:=1) (n:=8) (c:=1) (by rw[bo,bw];exact hx) rfl rfl
  simpa [ZT] using this⟩
 by_cases HI:i=l.length
 .subst HI;have k1:((1:Nat):Int)=1:=rfl;by_cases c0:cap=0
  .obtain rfl:l=[]:=List.eq_nil_of_length_eq_zero (by omega);subst c0;rw[ba]at Zq ⊢;have k0:((0:Nat):Int)=0:=rfl;simp -implicitDefEqProofs only[go_sem,k0,k1];refine SP (E:=133) (B:=B) (n:=8) (bytes:=64) PK bf MT kS rfl kR (fun _=>rfl) Zq hB sx (by simp only[bz,ba];omega) (by omega) ?_;intro v' h' ho hb _;simp -implicitDefEqProofs only[go_sem];exact⟨ho,hb⟩
  .obtain⟨b,ZG,Hx,rfl,hg,_,Ni,_⟩:=Zq.Zq.ZG c0;have hz:(l.length:Int)<=(l.length:Int):=Int.le_refl _;simp -implicitDefEqProofs only[go_sem,n1,n2,k1,S];refine SP (E:=133) (B:=B) (n:=8) (bytes:=64) PK bf MT kS rfl kR (fun _=>rfl) Zq hB sx (by simp only[bz];omega) (by omega) ?_;intro v' h' ho hb _;simp -implicitDefEqProofs only[go_sem];rw[List.take_length,List.drop_length];exact⟨ho,hb⟩
 have eu:i<l.length:=by omega
 have kK:¬(i:Int)=(l.length:Int):=by omega
 have c0:cap≠0:=by omega
 obtain⟨b,ZG,Hx,rfl,hg,_,Ni,_⟩:=Zq.Zq.ZG c0;have hbv:b≠bv:=Y4 c0 b 0 rfl;have et:l=l.take i++(l[i] :: l.drop (i+1)):=by
  conv=>lhs;rw[<-a4 i l,bc eu]
 have ed:ZT Zv (l.drop i)=Zv l[i]++ZT Zv (l.drop (i+1)):=by
  rw[bc eu];rfl
 have ee:ZT Zv l=ZT Zv (l.take i)++ZT Zv (l.drop i):=by rw[<-Y8,a4]
 have lt:(ZT Zv (l.take i)).length=i*8:=by rw[JR,a6];congr 1;omega
 have ld:(ZT Zv (l.drop i)).length=(l.length-i)*8:=by rw[JR,aw]
 have ZcP:ZT Zv (l.take i++x :: l.drop i)=ZT Zv (l.take i)++(Zv x++ZT Zv (l.drop i)):=by rw[Y8];rfl
 have ZcQ:(l.take i++x :: l.drop i).length=l.length+1:=by rw[U,a6,aI,aw];omega
 have c1:¬cap=i:=by omega
 have m1:(l.length:Int)+1=((l.length+1:Nat):Int):=by omega
 have m2:((l.length+1:Nat):Int)-(i:Int)=((l.length+1-i:Nat):Int):=by omega
 have m3:(i:Int)+1=((i+1:Nat):Int):=by omega
 have k1:((1:Nat):Int)=1:=rfl;by_cases W0:cap<l.length+1
 .have bC:(cap:Int)<((l.length+1:Nat):Int):=by omega
  have n3:(i:Int)<=(cap:Int):=by omega
  simp -implicitDefEqProofs only[go_sem,n1,n2,n3,k1,kK,m1,bC,m2,S];have ZtJ:UE B 133 8 h (.slice (Q ⟨b,0,O⟩) i cap) i (ZT Zv (l.take i)):=by
   have:=Zq.Zq.NL hi;rw[ee,bS lt]at this;exact this
  refine CE (E:=133) (B:=B) (n:=8) (m:=i) (k:=l.length+1-i) (bytes:=64) (zs:=rep 8 [Value.int .i64 0]) PK Tryz.underlying3 MT kS rfl (by decide) kR ZtJ hB (qn _) (by omega) (by omega) ?_;intro w g ow _ iN;obtain⟨iJ,c2,rfl⟩:=iN _ _ rfl (by omega);obtain⟨Z,hZ⟩:=ZQ ((be (rep 8 [Value.int .i64 0]).toArray (l.length+1-i)).toList);have lZ:=zeroV (l.length+1-i);rw[<-hZ]at ow lZ;have ec:i+(l.length+1-i)=l.length+1:=by omega
  rw[ec]at ow ⊢;rcases ow with⟨_,h0,_⟩|⟨b2,Ztz,sp2,_,iE,Wn,_,hs2,F9⟩
  .omega
  simp only[Value.slice.injEq,Option.some.injEq,Addr.mk.injEq,true_and,and_true]at iE;obtain⟨rfl,rfl⟩:=iE;have d1:¬c2=i:=by omega
  have d2:(i:Int)<=((l.length+1:Nat):Int):=by omega
  have hbl:=Za hg;have yD:=Za hx;have lT:g[b]? = _:=iJ.get hbl hg;have hgv:g[bv]? = _:=iJ.get yD hx;have sx1:Sl 8 g (.slice (Q ⟨bv,0,O⟩) 1 1) 1 (Zv x):=VZ (pre:=[]) (post:=[]) (by rw[bo,bw];exact hgv) rfl rfl;have yE:min 1 (l.length+1-i)=1:=by omega
  have eZ:ZT Zv (l.take i)++Z++sp2=ZT Zv (l.take i)++(Z.take 8++(Z.drop 8++sp2)):=by rw[au,<-au (Z.take 8),a4]
  have lz8:(Z.take 8).length=8:=by rw[a6];omega
  have ldz:(Z.drop 8).length=(l.length-i)*8:=by rw[aw];omega
  have ec1:Y9 (ZT Zv (l.take i)++Z++sp2) (i*8) ((Zv x).take (1*8))=(ZT Zv (l.take i)++Zv x)++(Z.drop 8++sp2):=by
   rw[show (Zv x).take (1*8)=Zv x from rfl,eZ,TY lt.symm (by rw[lz8];rfl),au]
  simp -implicitDefEqProofs only[go_sem,n1,d1,d2,S,a8];refine L6 (E:=133) (n:=8) PK MT Wn sx1 rfl ?_ ?_
  .rw[yE,U,U,lt,lZ];omega
  rw[yE,ec1];obtain⟨g2,Fb⟩:=ZQ (g.setIfInBounds h.size (.cells ((ZT Zv (l.take i)++Zv x)++(Z.drop 8++sp2)).toArray 133):Hp);rw[<-Fb];have g2n:g2[h.size]? = Q (.cells ((ZT Zv (l.take i)++Zv x)++(Z.drop 8++sp2)).toArray 133):=by rw[Fb];exact ZS Wn
  have g2b:g2[b]? = Q (.cells (ZT Zv (l.take i)++(ZT Zv (l.drop i)++ZG)).toArray 133):=by rw[Fb,Xa (by omega),lT,ee,au]
  have bg2:Zk h.size h g2:=by rw[Fb];exact iJ.Zt (R _) _
  clear Fb;have m4:(i:Int)+1=((i+1:Nat):Int):=by omega
  have d3:¬c2=i+1:=by omega
  have d4:((i+1:Nat):Int)<=((l.length+1:Nat):Int):=by omega
  have d5:(0:Int)<=((i+1:Nat):Int):=by omega
  simp -implicitDefEqProofs only[go_sem];refine VS.w (h.size) [8] (.q 0 (.q 1 (.q 2 (.q 3 (.q 4 (.q 5 (.q 6 (.q 7 (.w 8 .nil))))))))) mixed (by kernel_rfl) ?_;simp -implicitDefEqProofs only[go_sem,n1,n2,m4,k1,d3,d4,d5,c1,S,a8];have ss:Sl 8 g2 (.slice (Q ⟨b,i*8,O⟩) (l.length-i) (cap-i)) (l.length-i) (ZT Zv (l.drop i)):=VZ g2b ld lt.symm;have min2:min (l.length-i) (l.length+1-(i+1))=l.length-i:=by omega
  have etk:(ZT Zv (l.drop i)).take ((l.length-i)*8)=ZT Zv (l.drop i):=List.take_of_length_le (by omega);have ec2:Y9 ((ZT Zv (l.take i)++Zv x)++(Z.drop 8++sp2)) ((i+1)*8) ((ZT Zv (l.drop i)).take ((l.length-i)*8))=ZT Zv (l.take i++x :: l.drop i)++sp2:=by
   rw[etk,TY (by rw[U,lt];show (i+1)*8=i*8+8;omega) (by rw[ld,ldz]),ZcP];simp only[au]
  refine L6 (E:=133) (n:=8) PK MT g2n ss (bu _) ?_ ?_
  .rw[min2,U,U,U,lt,ldz];show _<=i*8+8+_;omega
  rw[min2,ec2];simp -implicitDefEqProofs only[go_sem];refine⟨⟨?_⟩,(bg2.Zt (R _) _).mono hB⟩;rw[ZcQ];exact UE.gm hB (ZS g2n) (by rw[JR,ZcQ]) hs2 F9
 .have bC:¬(cap:Int)<((l.length+1:Nat):Int):=by omega
  have Zlx:((l.length+1:Nat):Int)<=(cap:Int):=by omega
  have n4:(0:Int)<=((l.length+1:Nat):Int):=by omega
  have m4:(i:Int)+1=((i+1:Nat):Int):=by omega
  have d4:((i+1:Nat):Int)<=((l.length+1:Nat):Int):=by omega
  have d5:(0:Int)<=((i+1:Nat):Int):=by omega
  have d3:¬cap=i+1:=by omega
  simp -implicitDefEqProofs only[go_sem,n1,n2,n4,k1,c1,kK,m1,bC,Zlx,m4,d3,d4,d5,S,a8];have gB:h[b]? = Q (.cells (ZT Zv l++ZG).toArray 133 (0,0)):=hg;have gA:h[bv]? = Q (.cells (Zv x).toArray 133 (0,0)):=hx;have lsp:8<=ZG.length:=by
   rw[Ni];have:=Nat.mul_le_mul_right 8 (show 1<=cap-l.length by omega);omega
  refine CF Tryz.func138 (by decide) rfl Fa.1 Fa.2 ?_;refine CD (size:=8) bf MT (fun e=>hbv e.symm) gA gB (by intro e;have:=congrArg H e;rw[U,ba]at this;omega) ?_;simp -implicitDefEqProofs only[go_sem];refine VS.w (B) [8] (.q 0 (.q 1 (.q 2 (.q 3 (.q 4 (.q 5 (.q 6 (.q 7 (.w 8 .nil))))))))) mixed (by kernel_rfl) ?_;simp -implicitDefEqProofs only[go_sem,n1,n2,m4,k1,d3,d4,d5,c1,S,a8];have ss:Sl 8 h (.slice (Q ⟨b,i*8,O⟩) (l.length+1-i) (cap-i)) (l.length+1-i) (ZT Zv (l.drop i)++ZG.take 8):=VZ (post:=ZG.drop 8) (by rw[hg,ee,au,au,a4]) (by rw[U,ld,a6];omega) lt.symm;have min2:min (l.length+1-i) (l.length+1-(i+1))=l.length-i:=by omega
  have etk:(ZT Zv (l.drop i)++ZG.take 8).take ((l.length-i)*8)=ZT Zv (l.drop i):=bS ld;have ld1:(ZT Zv (l.drop (i+1))).length=(l.length-(i+1))*8:=by rw[JR,aw]
  have ecc:ZT Zv l++ZG=(ZT Zv (l.take i)++Zv l[i])++((ZT Zv (l.drop (i+1))++ZG.take 8)++ZG.drop 8):=by
   rw[ee,ed];simp only[au,a4]
  have ec1:Y9 (ZT Zv l++ZG) ((i+1)*8) (ZT Zv (l.drop i))=ZT Zv (l.take i)++(Zv l[i]++(ZT Zv (l.drop i)++ZG.drop 8)):=by
   rw[ecc,TY (by rw[U,lt];show (i+1)*8=i*8+8;omega) (by rw[ld,U,ld1,a6];omega),au]
  refine oK (E:=133) (n:=8) PK MT gB ss (by rw[min2,etk];exact bu _) ?_ ?_
  .rw[min2,U,JR];omega
  rw[min2,etk,ec1];obtain⟨g2,Fb⟩:=ZQ (h.setIfInBounds b (.cells (ZT Zv (l.take i)++(Zv l[i]++(ZT Zv (l.drop i)++ZG.drop 8))).toArray 133):Hp);rw[<-Fb];have g2n:g2[b]? = Q (.cells (ZT Zv (l.take i)++(Zv l[i]++(ZT Zv (l.drop i)++ZG.drop 8))).toArray 133):=by rw[Fb];exact ZS hg
  have g2v:g2[bv]? = Q (.cells (Zv x).toArray 133):=by rw[Fb,Xa hbv];exact hx
  have bg2:Zk B h g2:=by rw[Fb];exact Zk.set Hx _
  clear Fb;have sx1:Sl 8 g2 (.slice (Q ⟨bv,0,O⟩) 1 1) 1 (Zv x):=VZ (pre:=[]) (post:=[]) (by rw[bo,bw];exact g2v) rfl rfl;have yE:min 1 (l.length+1-i)=1:=by omega
  have ec2:Y9 (ZT Zv (l.take i)++(Zv l[i]++(ZT Zv (l.drop i)++ZG.drop 8))) (i*8) ((Zv x).take (1*8))=ZT Zv (l.take i++x :: l.drop i)++ZG.drop 8:=by
   rw[show (Zv x).take (1*8)=Zv x from rfl,TY lt.symm (show (Zv x).length=(Zv l[i]).length from rfl),ZcP];simp only[au]
  simp -implicitDefEqProofs only[go_sem,n1,n2,m4,k1,d3,d4,d5,c1,S,a8];refine L6 (E:=133) (n:=8) PK MT g2n sx1 rfl ?_ ?_
  .rw[yE,U,U,lt];show i*8+1*8<=i*8+(8+_);omega
  rw[yE,ec2];simp -implicitDefEqProofs only[go_sem];refine⟨⟨?_⟩,bg2.trans (Zk.set Hx _)⟩;rw[ZcQ];exact UE.gm Hx (ZS g2n) (by rw[JR,ZcQ]) (by rw[aw,Ni];omega) (by omega)
theorem ZcR{l:List Vt}(hs:Srt l)(hm:∀x∈l,Ym x):∀i (hi:i<(H l)),(i:Int)<=l[i].Zu:=by
 intro i
 induction i with
 | zero=>intro hi;have:=(hm _ (bR hi)).1.1;omega
 | succ i ih=>
  intro hi;have h1:=ih nc;have h2:=hs i (i+1) nc hi nc;omega
theorem ZcS{l:List Vt}(hs:Srt l)(hm:∀x∈l,Ym x):(H l)<=40:=by
 by_cases h:(H l)<=40
 .exact h
 .have h1:=ZcR hs hm 40 nc;have h2:=(hm _ (bR (show 40<(H l) by omega))).1.2;omega
def Xj(p:Yw)(l:List Vt)(x:Vt):Int:=if Jy p l≠0 then 5 else if ¬Ym x then 2 else if ZL x.b p then 7 else 0
def l9(B:Nat)(h':Hp)(v':a7)(p:Yw)(l:List Vt)(x:Vt):Prop:=∃w,v'=.tuple [aa (Xu (if Xj p l x=0 then x.b else ⟨0,0⟩) w).toArray,D t (Xj p l x)].toArray /\
 Qv B 133 Zv 8 h' w (if Xj p l x=0 then Jz l x else [])
theorem Ks(h:Hp)(p:Yw)(u:a7)(l:List Vt)(x:Vt)(s:Ts Zv 8 h u l)(hl:(H l)<=2199023255552):
  Zd a5 T 97 #[aa (Xu p u).toArray,aa (Zv x).toArray] h fun v' h'=>l9 h.size h' v' p l x/\Zk h.size h h':=by
 obtain⟨pu,cu,rfl,_⟩:=WD s;refine Zd.MQ [_,_] Tryz.func97 ?_;unfold Xu Zv;simp -implicitDefEqProofs only[go_sem];obtain⟨h0,Qn⟩:=ZQ (((h.push (K (Xu p (J pu (H l) cu)).toArray 105)).push (K (Zv x).toArray 133)).push (K [D t 0,D t 0,J O 0 0].toArray 105):Hp);have b0:Zk h.size h h0:=by rw[Qn];exact (((Zk.refl _ _).add _).add _).add _
 have s0:h0.size=h.size+3:=by rw[Qn];simp
 have x0:h0[h.size]? = Q (K (Xu p (J pu (H l) cu)).toArray 105):=by
  rw[Qn,W,if_neg KQ,W,if_neg Hg,Zc]
 have y0:h0[h.size+1]? = Q (K (Zv x).toArray 133):=by
  rw[Qn,W,if_neg Hg,W,if_pos Hg]
 have z0:h0[h.size+2]? = Q (K [D t 0,D t 0,J O 0 0].toArray 105):=by
  rw[Qn,W,if_pos Hg]
 have e0:((h.push (K #[Value.int t p.r,D t p.n,J pu (H l) cu] 105)).push (K #[Value.int t x.Zu,D t x.b.r,D t x.b.n,D t x.k,D t x.c,D t x.s,D t x.nm,D t x.v] 133)).push (K #[Value.int t 0,D t 0,J O 0 0] 105)=h0:=Qn.symm;rw[e0];clear e0 Qn;refine (Nr T h0 p _ l (s.Yy b0) nc).use ?_;rintro _ h1 ⟨rfl,b1⟩;have s1:=b1.size;have B1:Zk h.size h h1:=b0.trans (b1.mono nc);have x1:=b1.get nc x0;have y1:=b1.get nc y0;have z1:=b1.get nc z0;have fin:∀(G:Hp) (w:List a7),(H w)=3->w.all YC=true->G[h.size+2]? = Q (K [D t 0,D t 0,J O 0 0].toArray 105)->wr G ⟨h.size+1+1,0,O⟩ w=Q (G.setIfInBounds (h.size+1+1) (K w.toArray 105)):=by
  intro G w h3 h1 hx;rw[Ye (b:=h.size+1+1) hx 0 w,Z3 (by rw[h3];rfl),if_pos ⟨by rw[h3];simp,h1⟩]
 have yF:h.size+2<h1.size:=nc;unfold l9;rcases Io p l with e0|e0
 case inr=>
  have e:Xj p l x=5:=by unfold Xj;rw[if_pos (by rw[e0];decide)]
  have w2:=fin h1 [D t 0,D t 0,J O 0 0] rfl rfl z1;simp -implicitDefEqProofs only[go_sem,e0,e,w2,yF];exact⟨⟨_,rfl,Qv.nil _ _ _ _ _⟩,B1.Zt nc _⟩
 have r1:rd h1 ⟨h.size+1,0,O⟩ 8=Q (Zv x):=Zy y1 rfl;unfold Zv at r1;simp -implicitDefEqProofs only[go_sem,e0,r1];refine (HC T h1 x).use ?_;rintro _ h2 ⟨rfl,b2⟩;have s2:=b2.size;have B2:=B1.trans (b2.mono nc);have x2:=b2.get nc x1;have y2:=b2.get nc y1;have z2:=b2.get nc z1;have I6:h.size+2<h2.size:=nc;by_cases q1:Ym x
 case neg=>
  have e:Xj p l x=2:=by unfold Xj;rw[if_neg (by rw[e0];decide),if_pos q1]
  have w2:=fin h2 [D t 0,D t 0,J O 0 0] rfl rfl z2;simp -implicitDefEqProofs only[go_sem,q1,e,w2,I6];exact⟨⟨_,rfl,Qv.nil _ _ _ _ _⟩,B2.Zt nc _⟩
 have rb:rd h2 ⟨h.size+1,1,O⟩ 2=Q [D t x.b.r,D t x.b.n]:=by rw[YJ y2 (by simp[Zv])];rfl
 have rp:rd h2 ⟨h.size,0,O⟩ 2=Q [D t p.r,D t p.n]:=by rw[YJ x2 (by simp[Xu])];rfl
 simp -implicitDefEqProofs only[go_sem,q1,rb,rp];refine (Tn T h2 x.b p).use ?_;rintro _ h3 ⟨rfl,b3⟩;have s3:=b3.size;have B3:=B2.trans (b3.mono nc);have x3:=b3.get nc x2;have y3:=b3.get nc y2;have z3:=b3.get nc z2;have oZ:h.size+2<h3.size:=nc;by_cases q2:ZL x.b p
 case pos=>
  have e:Xj p l x=7:=by unfold Xj;rw[if_neg (by rw[e0];decide),if_neg (fun h=>h q1),if_pos q2]
  have w2:=fin h3 [D t 0,D t 0,J O 0 0] rfl rfl z3;have c2':Ke x.b p<0:=(La x.b p).2 q2;simp -implicitDefEqProofs only[go_sem,c2',e,w2,oZ];exact⟨⟨_,rfl,Qv.nil _ _ _ _ _⟩,B3.Zt nc _⟩
 have e:Xj p l x=0:=by unfold Xj;rw[if_neg (by rw[e0];decide),if_neg (fun h=>h q1),if_neg q2]
 have c2':¬Ke x.b p<0:=fun h=>q2 ((La x.b p).1 h);have srt:=GK e0;have few:=ZcS srt (gX e0);have rv:hc h3 ⟨h.size,2,O⟩=Q (J pu (H l) cu):=by rw[Zn x3];rfl
 simp -implicitDefEqProofs only[go_sem,c2',rv];refine (Sr T h3 _ l (s.Yy B3) hl).use ?_;rintro w4 h4 ⟨o4,b4⟩;have s4:=b4.size;have B4:=B3.trans (b4.mono nc);have y4:=b4.get nc y3;have z4:=b4.get nc z3;have r4:rd h4 ⟨h.size+1,0,O⟩ 8=Q (Zv x):=Zy y4 rfl;unfold Zv at r4;simp -implicitDefEqProofs only[go_sem,r4];refine (iM T h4 w4 l x o4.ts srt hl).use ?_;rintro _ h5 ⟨⟨i,b,hi,rfl,hf⟩,b5⟩;have s5:=b5.size;have B5:=B4.trans (b5.mono nc);have y5:=b5.get nc y4;have z5:=b5.get nc z4;have o5:=o4.Yy b5 (R _);have r5:rd h5 ⟨h.size+1,0,O⟩ 8=Q (Zv x):=Zy y5 rfl;unfold Zv at r5;have n1:(0:Int)<=(i:Int):=nc;obtain⟨p4,c4,rfl,hc4⟩:=o4.open;rcases hf with⟨rfl,eu,heq⟩|⟨rfl,hlo,hhi⟩
 .have yw:(i:Int)<((H l):Int):=nc;have c0:c4≠0:=nc;obtain⟨b,ZG,Hx,rfl,hg,_,Ni,_⟩:=o5.Zq.ZG c0;have et:l=l.take i++(l[i] :: l.drop (i+1)):=by
   conv=>lhs;rw[<-a4 i l,bc eu]
  have es:l.set i x=l.take i++(x :: l.drop (i+1)):=by rw[List.set_eq_take_append_cons_drop,if_pos eu]
  have ee:ZT Zv l=ZT Zv (l.take i)++(Zv l[i]++ZT Zv (l.drop (i+1))):=by
   have:=congrArg (ZT Zv) et;rw[Y8]at this;exact this
  have ZtO:ZT Zv (l.set i x)=ZT Zv (l.take i)++(Zv x++ZT Zv (l.drop (i+1))):=by
   have:=congrArg (ZT Zv) es;rw[Y8]at this;exact this
  have lt:(ZT Zv (l.take i)).length=i*8:=by rw[JR,a6];congr 1;omega
  have hw:wr h5 ⟨b,i*8,O⟩ (Zv x)=Q (h5.setIfInBounds b (K (ZT Zv (l.set i x)++ZG).toArray 133)):=by
   have ll:=JR l;have hmul:i*8+8<=(H l)*8:=nc;rw[Ye hg,if_pos ⟨by rw[U,ll];show i*8+8<=_;omega,rfl⟩,ee,au,au,TY lt.symm (show (Zv x).length=(Zv l[i]).length from rfl),ZtO,au,au]
  have hbz:b<h5.size:=Za hg;have aU:¬h.size+1=b:=nc;have ZgR:¬h.size+2=b:=nc;have rb5:rd h5 ⟨h.size+1,1,O⟩ 2=Q [D t x.b.r,D t x.b.n]:=by rw[YJ y5 (by simp[Zv])];rfl
  obtain⟨h6,iO⟩:=ZQ (h5.setIfInBounds b (K (ZT Zv (l.set i x)++ZG).toArray 133):Hp);rw[<-iO]at hw;unfold Zv at hw;have y6:h6[h.size+1]? = Q (K (Zv x).toArray 133):=by rw[iO,Xa nc];exact y5
  have z6:h6[h.size+2]? = Q (K [D t 0,D t 0,J O 0 0].toArray 105):=by rw[iO,Xa nc];exact z5
  have B6:Zk h.size h h6:=by rw[iO];exact B5.Zt nc _
  have o6:Qv (h.size+3) 133 Zv 8 h6 (J (Q ⟨b,0,O⟩) (H l) c4) (l.set i x):=by
   refine⟨?_⟩;rw[bT];exact UE.gm nc (by rw[iO];exact ZS hg) (by rw[JR,bT]) Ni hc4
  have rb6:rd h6 ⟨h.size+1,1,O⟩ 2=Q [D t x.b.r,D t x.b.n]:=by rw[YJ y6 (by simp[Zv])];rfl
  have w6:=fin h6 [D t x.b.r,D t x.b.n,J (Q ⟨b,0,O⟩) (H l) c4] rfl rfl z6;have ZtP:h.size+2<h6.size:=Za z6;simp -implicitDefEqProofs only[go_sem,n1,yw,r5,S,a8,hw,rb6,w6,ZtP,e];refine⟨⟨_,rfl,?_⟩,B6.Zt nc _⟩;rw[xt srt eu heq];exact (o6.Ya nc _).mono nc
 .have hn:Jz l x=l.take i++x :: l.drop i:=xu srt hi hlo hhi;simp -implicitDefEqProofs only[go_sem,r5];obtain⟨h6,iO⟩:=ZQ (h5.push (K (Zv x).toArray 133):Hp);have e6:h5.push (K #[Value.int t x.Zu,D t x.b.r,D t x.b.n,D t x.k,D t x.c,D t x.s,D t x.nm,D t x.v] 133)=h6:=iO.symm;rw[e6];have b6:Zk h5.size h5 h6:=by rw[iO];exact Zk.push (R _) _
  have s6:h6.size=h5.size+1:=by rw[iO];simp
  have v6:h6[h5.size]? = Q (K (Zv x).toArray 133):=by rw[iO];exact Zc
  clear e6 iO;have B6:=B5.trans (b6.mono nc);have o6:=(o5.Yy b6 (R _)).mono (B':=h.size+3) nc;have Y4:c4≠0->∀b o,p4=Q ⟨b,o,O⟩->b≠h5.size:=by
   intro c0 b o hp;subst hp;obtain⟨b',_,_,Qa,Ec,_⟩:=o5.Zq.ZG c0;simp only[Option.some.injEq,Addr.mk.injEq]at Qa;have:=Za Ec;omega
  refine (qo T h6 (h.size+3) p4 c4 i l x h5.size o6 nc hi nc v6 Y4).use ?_;rintro w7 h7 ⟨o7,b7⟩;obtain⟨p7,c7,rfl,_⟩:=o7.open;have s7:=b7.size;have B7:=B6.trans (b7.mono nc);have y7:=b7.get nc (b6.get nc y5);have z7:=b7.get nc (b6.get nc z5);have rb7:rd h7 ⟨h.size+1,1,O⟩ 2=Q [D t x.b.r,D t x.b.n]:=by rw[YJ y7 (by simp[Zv])];rfl
  obtain⟨L,hL⟩:=ZQ (l.take i++x :: l.drop i);rw[<-hL]at o7 hn ⊢;have w7:=fin h7 [D t x.b.r,D t x.b.n,J p7 (H L) c7] rfl rfl z7;have GW:h.size+2<h7.size:=Za z7;simp -implicitDefEqProofs only[go_sem,rb7,w7,GW,e];refine⟨⟨_,rfl,?_⟩,B7.Zt nc _⟩;rw[hn];exact (o7.Ya nc _).mono nc
def QZ(l:List Nat)(n:Int)(x:Vt):Int:=if ¬YW l n then 5 else if ¬Ym x then 2 else Qt l n 33
def Up(x:Vt):List Nat:=2 :: (ZC [x.Zu.toNat,x.b.r.toNat,x.b.n.toNat]++ZC [x.k.toNat,x.c.toNat,x.s.toNat,x.nm.toNat,x.v.toNat])
theorem iP(x:Vt):Xj ⟨0,0⟩ [] x=if Ym x then 0 else 2:=by
 have e:Jy ⟨0,0⟩ []=0:=rfl;unfold Xj;rw[if_neg (by rw[e];decide)];by_cases q:Ym x
 .rw[if_neg (fun hn=>hn q),if_pos q,if_neg];intro hb;have q1:=q.2.1.1.1;rcases hb with hb|⟨hb,_⟩<;>simp at hb<;>omega
 .rw[if_pos q,if_neg q]
theorem yG(h:Hp)(v:a7)(n:Int)(l:List Nat)(x:Vt)(s:Bs h v l)(hl:(H l)<=140737488355328)(tk:Tk h):
  Zd a5 T 113 #[aa [v,D t n].toArray,aa (Zv x).toArray] h fun v' h'=>RK h.size h' v' l n (QZ l n x) (YS (Up x))/\Zk h.size h h':=by
 obtain⟨p,c,rfl,_⟩:=s.open;refine Zd.XS [_,_] Tryz.func113 ?_;unfold RK Zv;simp -implicitDefEqProofs only[go_sem];obtain⟨h0,Qn⟩:=ZQ (((h.push (K [J p (H l) c,D t n].toArray 100)).push (K (Zv x).toArray 133)).push (K [J O 0 0,D t 0].toArray 100):Hp);have b0:Zk h.size h h0:=by rw[Qn];exact (((Zk.refl _ _).add _).add _).add _
 have s0:h0.size=h.size+3:=by rw[Qn];simp
 have t0:h0[h.size]? = Q (K [J p (H l) c,D t n].toArray 100):=by
  rw[Qn,W,if_neg KQ,W,if_neg Hg,Zc]
 have t1:h0[h.size+1]? = Q (K (Zv x).toArray 133):=by
  rw[Qn,W,if_neg Hg,W,if_pos Hg]
 have x0:h0[h.size+2]? = Q (K [J O 0 0,D t 0].toArray 100):=by
  rw[Qn,W,if_pos Hg]
 have e0:((h.push (K #[Value.slice p (H l) c,D t n] 100)).push (K #[Value.int t x.Zu,D t x.b.r,D t x.b.n,D t x.k,D t x.c,D t x.s,D t x.nm,D t x.v] 133)).push (K #[Value.slice O 0 0,D t 0] 100)=h0:=Qn.symm;rw[e0];clear e0 Qn;refine (UP T h0 _ n l (s.Yy b0) hl).use ?_;rintro _ h1 ⟨b1,o1⟩;have s1:=b1.size;have B1:Zk h.size h h1:=b0.trans (b1.mono nc);have x1:=b1.get nc x0;by_cases ok:YW l n
 case neg=>
  have ee:QZ l n x=5:=by unfold QZ;rw[if_pos ok]
  rw[if_neg (show ¬((H l)<=100000/\0<=n/\n<=(H l)) from ok)]at o1;subst o1;rw[ee];have y2:=Ye x1 0;have ZU:h.size+2<h1.size:=nc;have Y4:¬h.size+2=h1.size:=nc;simp -implicitDefEqProofs only[go_sem,y2,Y4,ZU];exact⟨⟨_,rfl,Yx.nil _ _ _⟩,(B1.Zt nc _).YU KQ _⟩
 rw[if_pos (show ((H l)<=100000/\0<=n/\n<=(H l)) from ok)]at o1;obtain⟨w,rfl,o1⟩:=o1;obtain⟨pw,cw,rfl,_⟩:=o1.open;have bt1:=b1.get nc t1;have r1:rd h1 ⟨h.size+1,0,O⟩ 8=Q (Zv x):=Zy bt1 rfl;unfold Zv at r1;have aU:¬h.size+1=h1.size:=nc;simp -implicitDefEqProofs only[go_sem,r1,aU];have b2:Zk h1.size h1 (h1.push (K [J pw (H l) cw,D t n].toArray 100)):=Zk.push (R _) _;refine (Ks T _ ⟨0,0⟩ (J O 0 0) [] x (Qv.nil 0 133 Zv 8 _).ts Hg).use ?_;rintro _ h3 ⟨⟨w1,rfl,q1⟩,b3⟩;have B3:Zk h1.size h1 h3:=b2.trans (b3.mono b2.size);rw[iP]at q1 ⊢;obtain⟨p1,c1,hU,_⟩:=q1.open;have s3:=B3.size;have x3:=B3.get nc x1;have d8:=B1.trans (B3.mono nc);by_cases may:Ym x
 case neg=>
  have ee:QZ l n x=2:=by unfold QZ;rw[if_neg (fun hn=>hn ok),if_pos may]
  rw[if_neg may]at hU;rw[ee,if_neg may];subst hU;have y2:=Ye x3 0;have ZU:h.size+2<h3.size:=nc;have Y4:¬h.size+2=h3.size:=nc;unfold Xu;simp -implicitDefEqProofs only[go_sem,y2,Y4,ZU];exact⟨⟨_,rfl,Yx.nil _ _ _⟩,(d8.Zt nc _).YU KQ _⟩
 have ee:QZ l n x=Qt l n 33:=by unfold QZ;rw[if_neg (fun hn=>hn ok),if_neg (fun hn=>hn may)]
 rw[if_pos may]at hU;rw[ee,if_pos may];obtain⟨⟨m1,m2⟩,⟨⟨m3,m4⟩,m5,m6⟩,mc⟩:=may;obtain⟨xs,⟨br,bn⟩,xk,xc,xss,xn,xv⟩:=x;simp only at m1 m2 m3 m4 m5 m6 mc;obtain⟨k,c2,s2,nm,vv,rfl,rfl,rfl,rfl,rfl,_⟩:=Ii mc;obtain⟨sl,rfl⟩:∃r:Nat,xs=r:=⟨xs.toNat,nc⟩
 obtain⟨r,rfl⟩:∃r:Nat,br=r:=⟨br.toNat,nc⟩
 obtain⟨m,rfl⟩:∃m:Nat,bn=m:=⟨bn.toNat,nc⟩
 unfold Up;rw[if_pos rfl]at hU;subst hU;unfold Xu;have t3:=B3.get nc (b1.get nc t0);have t13:=B3.get nc bt1;have rc:rd h3 ⟨h.size+1,3,O⟩ 5=Q (QW k c2 s2 nm vv):=by rw[YJ t13 (by simp[Zv])];rfl
 unfold QW at rc;have ZtQ:¬h.size+1=h3.size:=nc;simp -implicitDefEqProofs only[go_sem,rc,ZtQ];obtain⟨g0,hg0⟩:=ZQ (h3.push (K [D t (r:Nat),D t (m:Nat),J p1 (Jz [] ⟨sl,⟨r,m⟩,k,c2,s2,nm,vv⟩).length c1].toArray 105):Hp);have e3:h3.push (K #[Value.int t (r:Nat),D t (m:Nat),J p1 (Jz [] ⟨sl,⟨r,m⟩,k,c2,s2,nm,vv⟩).length c1] 105)=g0:=hg0.symm;rw[e3];have bg0:Zk h3.size h3 g0:=by rw[hg0];exact Zk.push (R _) _
 have sg0:g0.size=h3.size+1:=by rw[hg0];simp
 clear e3 hg0;refine (Kc T g0 k c2 s2 nm vv).use ?_;rintro _ g ⟨⟨wc,rfl,sC⟩,oR⟩;rw[mc,if_pos rfl]at sC;simp only[S]at sC ⊢;rw[mc];have lC:(ZC [k,c2,s2,nm,vv]).length=20:=by rw[ZM];rfl
 generalize ZC [k,c2,s2,nm,vv]=CB at *;obtain⟨pc,cc,rfl,_⟩:=sC.open;have bg:Zk h3.size h3 g:=bg0.trans (oR.mono nc);have sg:h3.size+1<=g.size:=by have:=oR.size;omega
 have Bg:Zk h.size h g:=d8.trans (bg.mono nc);have x4g:=bg.get nc x3;have t4:=bg.get nc t3;have t14:=bg.get nc t13;have r0:rd g ⟨h.size,0,O⟩ 2=Q [J p (H l) c,D t n]:=Zy t4 rfl;have c0:V.hc g ⟨h.size+1,0,O⟩=Q (D t (sl:Nat)):=by rw[Zn t14];rfl
 have c1':V.hc g ⟨h.size+1,1,O⟩=Q (D t (r:Nat)):=by rw[Zn t14];rfl
 have c2':V.hc g ⟨h.size+1,2,O⟩=Q (D t (m:Nat)):=by rw[Zn t14];rfl
 have k0:h.size<g.size:=nc;have k1:h.size+1<g.size:=nc;simp -implicitDefEqProofs only[go_sem];refine VS.w (g.size) [18,19] (.q 0 (.q 2 (.q 3 (.q 4 (.q 5 (.q 6 (.q 7 (.q 8 (.q 9 (.q 13 (.or 1 (.s 10 (.s 11 (.s 12 (.s 14 (.s 15 (.q 16 (.q 17 (.w 18 (.w 19 .nil))))))))) (.s 10 (.or 1 (.s 11 (.s 12 (.s 14 (.s 15 (.q 16 (.q 17 (.w 18 (.w 19 .nil)))))))) (.s 11 (.s 1 (.s 12 (.s 14 (.s 15 (.q 16 (.q 17 (.w 18 (.w 19 .nil)))))))))))))))))))))) mixed uf ?_;simp -implicitDefEqProofs only[go_sem,r0,c0,c1',c2',k0,k1];refine⟨?_,?_,?_⟩
 .have o0:Yx g.size 5 (g.push (K (([2]:List Nat).map bv).toArray 5)) (J (Q ⟨g.size,0,O⟩) 1 1) [2]:=Yx.made aaa (R _);have B0:Zk g.size g ((g.push (K (([2]:List Nat).map bv).toArray 5)).push (K (([sl,r,m]:List Nat).map nv).toArray 3)):=(Zk.push (R _) _).YU Hg _;have o00:=o0.push (K (([sl,r,m]:List Nat).map nv).toArray 3);have si:NT ((g.push (K (([2]:List Nat).map bv).toArray 5)).push (K (([sl,r,m]:List Nat).map nv).toArray 3)) (J (Q ⟨(g.push (K (([2]:List Nat).map bv).toArray 5)).size,0,O⟩) 3 3) [sl,r,m]:=V0 _ _;have e1:(g.push (K (([2]:List Nat).map bv).toArray 5)).size=g.size+1:=Hg;rw[e1]at si;refine (S9 T _ _ [sl,r,m] si Hg (by intro x hx;simp only[bB,bk,or_false]at hx;omega)).use ?_;rintro w5 h5 ⟨o5,b5⟩;have BB:=B0.trans (b5.mono B0.size);have o1:=o00.Yy b5 (R _);have s4:=o5.bs;simp -implicitDefEqProofs only[go_sem,BB];refine ZK (E:=5) (B:=g.size) Xg a9 Ti T4 T3 o1 BB.size s4 (by rw[ZM];simp) ?_;intro w6 h6 o6 b6 _;have B6:Zk g.size g h6:=BB.trans b6;have ye:Yx g.size 5 h6 w6 (2 :: ZC [sl,r,m]):=o6;have l6:(2 :: ZC [sl,r,m]).length=13:=by simp only[aI,ZM,ba]
  simp -implicitDefEqProofs only[go_sem,B6];refine ZK (E:=5) (B:=g.size) Xg a9 Ti T4 T3 ye B6.size (sC.Yy B6) nc ?_;intro w7 h7 o7 b7 _;have B7:Zk g.size g h7:=B6.trans b7;have Ed:=Bg.trans (B7.mono nc);have o7':Yx g.size 5 h7 w7 (2 :: (ZC [sl,r,m]++CB)):=o7;have el:(2 :: (ZC [sl,r,m]++CB)).length=33:=by rw[aI,U,lC,ZM];rfl
  simp -implicitDefEqProofs only[go_sem,B7];refine (S8 T h7 _ w7 n l (2 :: (ZC [sl,r,m]++CB)) (s.Yy Ed) hl o7'.bs nc (tk.Qx Ed)).use ?_;rintro _ h8 ⟨⟨w8,rfl,o8⟩,b8⟩;rw[el]at o8 ⊢;have B8:Zk g.size g h8:=B7.trans (b8.mono B7.size);have Bh8:=Ed.trans (b8.mono Ed.size);have x8:=B8.get nc x4g;have y8:=Ye x8 0;have yH:h.size+2<h8.size:=Za x8;generalize YS (2 :: (ZC [sl,r,m]++CB))=FR at *;obtain⟨E,hE⟩:=ZQ (Qt l n 33);rw[<-hE]at o8 ⊢;obtain⟨z,hz⟩:∃z:Int,z=if E=0 then n else 0:=⟨_,rfl⟩
  rw[<-hz];obtain⟨pz,cz,rfl,_⟩:=o8.open;simp -implicitDefEqProofs only[go_sem,B8,y8,yH];refine⟨⟨_,rfl,?_⟩,Bh8.Zt nc _⟩;exact (o8.Ya (by have:=B7.size;omega) _).mono (by have:=B7.size;omega)
 .have B0a:Zk g.size g (g.push (K (([sl,r,m]:List Nat).map nv).toArray 3)):=Zk.push (R _) _;have o0:Yx g.size 5 ((g.push (K (([sl,r,m]:List Nat).map nv).toArray 3)).push (K (([2]:List Nat).map bv).toArray 5)) (J (Q ⟨(g.push (K (([sl,r,m]:List Nat).map nv).toArray 3)).size,0,O⟩) 1 1) [2]:=(Yx.made aaa (R _)).mono Hg;have B0:Zk g.size g ((g.push (K (([sl,r,m]:List Nat).map nv).toArray 3)).push (K (([2]:List Nat).map bv).toArray 5)):=B0a.YU Hg _;have si0:NT (g.push (K (([sl,r,m]:List Nat).map nv).toArray 3)) (J (Q ⟨g.size,0,O⟩) 3 3) [sl,r,m]:=V0 _ _;have si:=si0.Yy (Zk.push (R _) (K (([2]:List Nat).map bv).toArray 5));have e1:(g.push (K (([sl,r,m]:List Nat).map nv).toArray 3)).size=g.size+1:=Hg;rw[e1]at o0;refine (S9 T _ _ [sl,r,m] si Hg (by intro x hx;simp only[bB,bk,or_false]at hx;omega)).use ?_;rintro w5 h5 ⟨o5,b5⟩;have BB:=B0.trans (b5.mono B0.size);have o1:=o0.Yy b5 (R _);have s4:=o5.bs;simp -implicitDefEqProofs only[go_sem,BB];refine ZK (E:=5) (B:=g.size) Xg a9 Ti T4 T3 o1 BB.size s4 (by rw[ZM];simp) ?_;intro w6 h6 o6 b6 _;have B6:Zk g.size g h6:=BB.trans b6;have ye:Yx g.size 5 h6 w6 (2 :: ZC [sl,r,m]):=o6;have l6:(2 :: ZC [sl,r,m]).length=13:=by simp only[aI,ZM,ba]
  simp -implicitDefEqProofs only[go_sem,B6];refine ZK (E:=5) (B:=g.size) Xg a9 Ti T4 T3 ye B6.size (sC.Yy B6) nc ?_;intro w7 h7 o7 b7 _;have B7:Zk g.size g h7:=B6.trans b7;have Ed:=Bg.trans (B7.mono nc);have o7':Yx g.size 5 h7 w7 (2 :: (ZC [sl,r,m]++CB)):=o7;have el:(2 :: (ZC [sl,r,m]++CB)).length=33:=by rw[aI,U,lC,ZM];rfl
  simp -implicitDefEqProofs only[go_sem,B7];refine (S8 T h7 _ w7 n l (2 :: (ZC [sl,r,m]++CB)) (s.Yy Ed) hl o7'.bs nc (tk.Qx Ed)).use ?_;rintro _ h8 ⟨⟨w8,rfl,o8⟩,b8⟩;rw[el]at o8 ⊢;have B8:Zk g.size g h8:=B7.trans (b8.mono B7.size);have Bh8:=Ed.trans (b8.mono Ed.size);have x8:=B8.get nc x4g;have y8:=Ye x8 0;have yH:h.size+2<h8.size:=Za x8;generalize YS (2 :: (ZC [sl,r,m]++CB))=FR at *;obtain⟨E,hE⟩:=ZQ (Qt l n 33);rw[<-hE]at o8 ⊢;obtain⟨z,hz⟩:∃z:Int,z=if E=0 then n else 0:=⟨_,rfl⟩
  rw[<-hz];obtain⟨pz,cz,rfl,_⟩:=o8.open;simp -implicitDefEqProofs only[go_sem,B8,y8,yH];refine⟨⟨_,rfl,?_⟩,Bh8.Zt nc _⟩;exact (o8.Ya (by have:=B7.size;omega) _).mono (by have:=B7.size;omega)
 .have B0a:Zk g.size g (g.push (K (([sl,r,m]:List Nat).map nv).toArray 3)):=Zk.push (R _) _;have si:NT (g.push (K (([sl,r,m]:List Nat).map nv).toArray 3)) (J (Q ⟨g.size,0,O⟩) 3 3) [sl,r,m]:=V0 _ _;refine (S9 T _ _ [sl,r,m] si Hg (by intro x hx;simp only[bB,bk,or_false]at hx;omega)).use ?_;rintro w5 h5 ⟨o5,b5⟩;have BB5:=B0a.trans (b5.mono B0a.size);have BB:Zk g.size g (h5.push (K (([2]:List Nat).map bv).toArray 5)):=BB5.YU BB5.size _;have o1:Yx g.size 5 (h5.push (K (([2]:List Nat).map bv).toArray 5)) (J (Q ⟨h5.size,0,O⟩) 1 1) [2]:=(Yx.made aaa (R _)).mono BB5.size;have s4:=o5.bs.Yy (Zk.push (R h5.size) (K (([2]:List Nat).map bv).toArray 5));simp -implicitDefEqProofs only[go_sem,BB5,BB];refine ZK (E:=5) (B:=g.size) Xg a9 Ti T4 T3 o1 BB.size s4 (by rw[ZM];simp) ?_;intro w6 h6 o6 b6 _;have B6:Zk g.size g h6:=BB.trans b6;have ye:Yx g.size 5 h6 w6 (2 :: ZC [sl,r,m]):=o6;have l6:(2 :: ZC [sl,r,m]).length=13:=by simp only[aI,ZM,ba]
  simp -implicitDefEqProofs only[go_sem,B6];refine ZK (E:=5) (B:=g.size) Xg a9 Ti T4 T3 ye B6.size (sC.Yy B6) nc ?_;intro w7 h7 o7 b7 _;have B7:Zk g.size g h7:=B6.trans b7;have Ed:=Bg.trans (B7.mono nc);have o7':Yx g.size 5 h7 w7 (2 :: (ZC [sl,r,m]++CB)):=o7;have el:(2 :: (ZC [sl,r,m]++CB)).length=33:=by rw[aI,U,lC,ZM];rfl
  simp -implicitDefEqProofs only[go_sem,B7];refine (S8 T h7 _ w7 n l (2 :: (ZC [sl,r,m]++CB)) (s.Yy Ed) hl o7'.bs nc (tk.Qx Ed)).use ?_;rintro _ h8 ⟨⟨w8,rfl,o8⟩,b8⟩;rw[el]at o8 ⊢;have B8:Zk g.size g h8:=B7.trans (b8.mono B7.size);have Bh8:=Ed.trans (b8.mono Ed.size);have x8:=B8.get nc x4g;have y8:=Ye x8 0;have yH:h.size+2<h8.size:=Za x8;generalize YS (2 :: (ZC [sl,r,m]++CB))=FR at *;obtain⟨E,hE⟩:=ZQ (Qt l n 33);rw[<-hE]at o8 ⊢;obtain⟨z,hz⟩:∃z:Int,z=if E=0 then n else 0:=⟨_,rfl⟩
  rw[<-hz];obtain⟨pz,cz,rfl,_⟩:=o8.open;simp -implicitDefEqProofs only[go_sem,B8,y8,yH];refine⟨⟨_,rfl,?_⟩,Bh8.Zt nc _⟩;exact (o8.Ya (by have:=B7.size;omega) _).mono (by have:=B7.size;omega)
structure UC where
 p:Yw
 l:List Vt
def bD(b:List Nat):Vt->Vt:=fun v=>⟨v.Zu,v.b,XB b 0,XB b 4,XB b 8,XB b 12,XB b 16⟩
def JA(a:UC)(b:List Nat):Option UC:=
 if (H b)=9/\b.getD 0 0=1 then (if YG a.p a.l ⟨XB b 1,XB b 5⟩=0 then Q ⟨⟨XB b 1,XB b 5⟩,a.l⟩ else O)
 else if (H b)=33/\b.getD 0 0=2 then (if Qr (b.drop 13)≠0 then O else
  if Xj a.p a.l (bD (b.drop 13) ⟨XB b 1,⟨XB b 5,XB b 9⟩,0,0,0,0,0⟩)=0 then Q ⟨⟨XB b 5,XB b 9⟩,Jz a.l (bD (b.drop 13) ⟨XB b 1,⟨XB b 5,XB b 9⟩,0,0,0,0,0⟩)⟩ else O)
 else O
def Bq(B:Nat)(h':Hp)(v':a7)(a:UC)(b:List Nat):Prop:=∃P p m c,v'=.tuple [aa (Xu P (J p m c)).toArray,am (JA a b).isSome].toArray/\∀x,JA a b=Q x->P=x.p/\Qv B 133 Zv 8 h' (J p m c) x.l
theorem Q0(l:List Nat)(k i:Nat):XB (l.drop k) i=XB l (k+i):=by
 have e:∀j,(l.drop k).getD j 0=l.getD (k+j) 0:=fun j=>by rw[bh,bh,List.getElem?_drop]
 unfold XB;rw[e,e,e,e];rfl
theorem ZcT(h:Hp)(v:a7)(l:List Nat)(s:Bs h v l)(hi:4<=(H l))(hl:(H l)<=140737488355328):
  Zd a5 T 96 #[v] h fun v' h'=>v'=D t (XB l 0:Nat)/\h'=h:=by
 obtain⟨p,c,rfl,Wr⟩:=s.VA;refine Zd.XS [_] Tryz.func96 ?_;obtain⟨b,o,rfl,hb,XE⟩:=Wr (by intro e;subst e;simp at hi);have c0:=XE 0 nc;have c1:=XE 1 nc;have c2:=XE 2 nc;have c3:=XE 3 nc;have w0:=Z2 s.byte 0;have w1:=Z2 s.byte 1;have w2:=Z2 s.byte 2;have w3:=Z2 s.byte 3;have e4:=CO w0 w1 w2 w3;have n0:(0:Int)<(H l):=nc;have n1:(1:Int)<(H l):=nc;have n2:(2:Int)<(H l):=nc;have n3:(3:Int)<(H l):=nc;rw[bl]at c0;unfold XB;rw[a8,a8,a8];generalize l.getD 0 0=a0 at *;generalize l.getD 1 0=a1 at *;generalize l.getD 2 0=a2 at *;generalize l.getD 3 0=a3 at *;simp -implicitDefEqProofs only[go_sem];refine VS.q mixed uf ?_;simp -implicitDefEqProofs only[go_sem,c0,c1,c2,c3,n0,n1,n2,n3,e4]
 trace_state
theorem Oh(h:Hp)(bb oo d d' m m0:Nat)(b:List Nat)(k:Nat)(s:Bs h (J (Q ⟨bb,oo,O⟩) m0 d) b)(hm0:(H b)=m0)(hk:k+4<=m0)(hm:m=m0-k)(hl:m0<=100000):
  Zd a5 T 96 #[J (Q ⟨bb,oo+k,O⟩) m d'] h fun v' h'=>v'=D t (XB b k:Nat)/\h'=h:=by
 subst hm;have s1:=RH s (k:=k) (by omega) hm0 d';have:=ZcT T h _ (b.drop k) s1 (by rw[aw];omega) (by rw[aw];omega);rw[Q0]at this;exact this
theorem iQ(l:List Nat)(h:Qr l=0):Gw l=[D t (XB l 0),D t (XB l 4),D t (XB l 8),D t (XB l 12),D t (XB l 16)]:=by
 unfold Gw;rw[if_pos h];rfl
theorem qp(l:List Nat)(h:¬Qr l=0):Gw l=[D t 0,D t 0,D t 0,D t 0,D t 0]:=by
 unfold Gw;rw[if_neg h];rfl
set_option maxHeartbeats 1000000 in
theorem yI(h:Hp)(P:Yw)(pv:Option Addr)(cv:Nat)(l:List Vt)(q:Option Addr)(m d:Nat)(b:List Nat)(s:Ts Zv 8 h (J pv (H l) cv) l)(sb:Bs h (J q m d) b)(hm:(H b)=m)(hl:(H l)<=1000000)(hb:m<=1000)(hd:m<=d):
  Zd a5 T 76 #[aa (Xu P (J pv (H l) cv)).toArray,J q m d] h fun v' h'=>Bq h.size h' v' ⟨P,l⟩ b/\Zk h.size h h':=by
 refine Zd.MQ [_,_] Tryz.func76 ?_;unfold Xu;simp -implicitDefEqProofs only[go_sem];obtain⟨h0,Qn⟩:=ZQ ((h.push (K (Xu P (J pv (H l) cv)).toArray 105)).push (K [D t 0,D t 0,J O 0 0].toArray 105):Hp);have b0:Zk h.size h h0:=by rw[Qn];exact ((Zk.refl _ _).add _).add _
 have s0:h0.size=h.size+2:=by rw[Qn];simp
 have x0:h0[h.size]? = Q (K (Xu P (J pv (H l) cv)).toArray 105):=by
  rw[Qn,W,if_neg (by simp),Zc]
 have z0:h0[h.size+1]? = Q (K [D t 0,D t 0,J O 0 0].toArray 105):=by
  rw[Qn,W,if_pos (by simp)]
 have e0:(h.push (K #[Value.int t P.r,D t P.n,J pv (H l) cv] 105)).push (K #[Value.int t 0,D t 0,J O 0 0] 105)=h0:=Qn.symm;rw[e0];clear e0 Qn;have fin:∀(G:Hp) (k:Nat) (w:List a7),(H w)=3->w.all YC=true->G[k]? = Q (K [D t 0,D t 0,J O 0 0].toArray 105)->wr G ⟨k,0,O⟩ w=Q (G.setIfInBounds k (K w.toArray 105)):=by
  intro G k w h3 h1 hx;rw[Ye (b:=k) hx 0 w,Z3 (by rw[h3];rfl),if_pos ⟨by rw[h3];simp,h1⟩]
 have sb0:=sb.Yy b0;have s0':=s.Yy b0;have r0:rd h0 ⟨h.size,0,O⟩ 3=Q [D t P.r,D t P.n,J pv (H l) cv]:=Zy x0 rfl;have k0:h.size<h0.size:=by omega
 have k1:h.size+1<h0.size:=by omega
 unfold Bq;by_cases n9:m=9
 .subst n9;have k9:((9:Nat):Int)=9:=rfl;obtain⟨q',d',hv,hh⟩:=sb0.VA;simp only[Value.slice.injEq]at hv;obtain⟨rfl,_,rfl⟩:=hv;obtain⟨bb,oo,rfl,Tm,XE⟩:=hh (by intro e;subst e;simp at hm);have c0:=XE 0 (by omega);rw[bl]at c0;by_cases q1:b.getD 0 0=1
  case neg=>
   have q1':¬((b.getD 0 0:Nat):Int)=1:=by omega
   have e:JA ⟨P,l⟩ b=O:=by
    unfold JA;rw[if_neg (fun hn=>q1 hn.2),if_neg (fun hn=>by omega)]
   have wz:=fin h0 (h.size+1) [D t P.r,D t P.n,J pv (H l) cv] rfl rfl z0;simp -implicitDefEqProofs only[go_sem,k9,c0,q1',e,r0,wz,k1];exact⟨⟨P,pv,(H l),cv,rfl,by simp⟩,b0.Zt (by omega) _⟩
  rw[q1]at c0;have e1:((1:Nat):Int)=1:=rfl;rw[e1]at c0;obtain⟨X,hX⟩:∃X:Yw,X=⟨XB b 1,XB b 5⟩:=⟨_,rfl⟩
  have e:JA ⟨P,l⟩ b=if YG P l X=0 then Q ⟨X,l⟩ else O:=by
   unfold JA;rw[if_pos ⟨hm,q1⟩,hX]
  have call:∀G,Ts Zv 8 G (J pv (H l) cv) l->Zd a5 T 95 #[aa #[D t P.r,D t P.n,J pv (H l) cv],aa #[D t (XB b 1:Nat),D t (XB b 5:Nat)]] G fun v' h'=>ar G.size h' v' P l X/\Zk G.size G h':=fun G sG=>by
   rw[hX];exact RF T G P _ l _ sG (by omega)
  clear hX;have d1:¬d=1:=by omega
  have d5:¬d=5:=by omega
  have yJ:=sb0;simp -implicitDefEqProofs only[go_sem,k9,c0];refine VS.mono (N:=fun F' g'=>Zk h0.size h0 g'/\F' 4=al (Q ⟨h.size+1,0,O⟩)/\F' 8=D t (YG P l X)/\∃A p1 c1,h0.size<=A/\F' 6=al (Q ⟨A,0,O⟩)/\g'[A]? = Q (K (Xu (if YG P l X=0 then X else ⟨0,0⟩) (J p1 (if YG P l X=0 then l else []).length c1)).toArray 105)/\Qv h0.size 133 Zv 8 g' (J p1 (if YG P l X=0 then l else []).length c1) (if YG P l X=0 then l else [])) ?_ ?_ (fun _ _ _ h=>h) (fun _ _ h=>h)
  .refine VS.w (h0.size) [] (.q 0 (.q 1 (.q 2 (.q 4 (.q 5 (.or 3 (.or 6 (.q 7 (.or 8 (.q 9 (.q 10 (.q 11 (.q 12 (.s 13 (.s 14 (.q 15 (.q 16 .nil)))))))) (.s 13 (.s 8 (.q 9 (.q 10 (.q 11 (.q 12 (.s 14 (.q 15 (.q 16 .nil))))))))))) (.s 13 (.s 6 (.q 7 (.s 8 (.q 9 (.q 10 (.q 11 (.q 12 (.s 14 (.q 15 (.q 16 .nil)))))))))))) (.s 13 (.s 3 (.s 6 (.q 7 (.s 8 (.q 9 (.q 10 (.q 11 (.q 12 (.s 14 (.q 15 (.q 16 .nil)))))))))))))))))) mixed (by kernel_rfl) ?_;simp -implicitDefEqProofs only[go_sem,r0,k0,k9,d1,d5,c0,S]
   repeat' (first
     | with_reducible exact Zk.refl _ _
     | with_reducible exact Zk.push (by omega) _
     | (with_reducible refine (Oh T _ bb oo d _ _ _ b 1 (by first|exact yJ|exact yJ.Yy (Zk.push (R _) _)) hm (by omega) rfl (by omega)).pure ?_;simp -implicitDefEqProofs only[go_sem,r0,k0,c0,S])
     | (with_reducible refine (Oh T _ bb oo d _ _ _ b 5 (by first|exact yJ|exact yJ.Yy (Zk.push (R _) _)) hm (by omega) rfl (by omega)).pure ?_;simp -implicitDefEqProofs only[go_sem,r0,k0,c0,S])
     | with_reducible refine And.intro ?_ ?_)
   all_goals first
    | (refine (call h0 s0').use ?_
       rintro _ g1 ⟨⟨w1,w2,rfl,o1,o2⟩,b1⟩;obtain⟨p1,c1,rfl,_⟩:=o1.open;obtain⟨p2,c2,rfl,_⟩:=o2.open;generalize (if YG P l X=0 then X else ⟨0,0⟩)=Y at *;generalize (if YG P l X=0 then l else [])=L at *;generalize YG P l X=E at *;have s1:=b1.size;unfold Xu;simp -implicitDefEqProofs only[go_sem,b1];exact⟨_,_,_,s1,rfl,Zc,o1.push _⟩)
    | (refine (call (h0.push (K [D t 0,D t 0,J O 0 0].toArray 105)) (s0'.Yy (Zk.push (R _) _))).use ?_
       rintro _ g1 ⟨⟨w1,w2,rfl,o1,o2⟩,b1⟩;obtain⟨p1,c1,rfl,_⟩:=o1.open;obtain⟨p2,c2,rfl,_⟩:=o2.open;generalize (if YG P l X=0 then X else ⟨0,0⟩)=Y at *;generalize (if YG P l X=0 then l else [])=L at *;generalize YG P l X=E at *;have B1:Zk h0.size h0 g1:=(Zk.push (R _) _).trans (b1.mono (by simp));have xA:=b1.get (by simp) Zc;have yA:=fin g1 h0.size [D t Y.r,D t Y.n,J p1 (H L) c1] rfl rfl xA;have hz:=Za xA;unfold Xu;simp -implicitDefEqProofs only[go_sem,B1,yA,hz];exact⟨_,_,_,R _,rfl,ZS xA,(o1.Ya (b:=h0.size) (by simp) _).mono (by simp)⟩)
  .rintro F' g' ⟨hB,f4,f8,A,p1,c1,hA,f6,xA,oA⟩;have z1:=hB.get (by omega) z0;have k1':=Za z1;have rA:rd g' ⟨A,0,O⟩ 3=_:=Zy xA rfl;generalize hY:(if YG P l X=0 then X else ⟨0,0⟩)=Y at *;generalize hL:(if YG P l X=0 then l else [])=L at *;generalize YG P l X=E at *;unfold Xu at rA;have wz:=fin g' (h.size+1) [D t Y.r,D t Y.n,J p1 (H L) c1] rfl rfl z1;have bb':Zk h.size h (g'.setIfInBounds (h.size+1) (K [D t Y.r,D t Y.n,J p1 (H L) c1].toArray 105)):=(b0.trans (hB.mono (by omega))).Zt (by omega) _;by_cases q:E=0
   .rw[if_pos q]at e hY hL;simp -implicitDefEqProofs only[go_sem,f4,f6,f8,rA,wz,k1',q,e];refine⟨⟨Y,p1,(H L),c1,rfl,fun x hx=>?_⟩,bb'⟩
    cases hx
    exact⟨hY.symm,by rw[hL];exact (oA.Ya (by omega) _).mono (by omega)⟩
   .rw[if_neg q]at e;simp -implicitDefEqProofs only[go_sem,f4,f6,f8,rA,wz,k1',q,e];exact⟨⟨Y,p1,(H L),c1,rfl,by simp⟩,bb'⟩
 have n9':¬(m:Int)=9:=by omega
 by_cases n33:m=33
 case neg=>
  have ZtS:¬(m:Int)=33:=by omega
  have e:JA ⟨P,l⟩ b=O:=by
   unfold JA;rw[if_neg (fun hn=>by omega),if_neg (fun hn=>by omega)]
  have wz:=fin h0 (h.size+1) [D t P.r,D t P.n,J pv (H l) cv] rfl rfl z0;simp -implicitDefEqProofs only[go_sem,n9',ZtS,e,r0,wz,k1];exact⟨⟨P,pv,(H l),cv,rfl,by simp⟩,b0.Zt (by omega) _⟩
 subst n33;have k33:((33:Nat):Int)=33:=rfl;clear n9';obtain⟨q',d',hv,hh⟩:=sb0.VA;simp only[Value.slice.injEq]at hv;obtain⟨rfl,_,rfl⟩:=hv;obtain⟨bb,oo,rfl,Tm,XE⟩:=hh (by intro e;subst e;simp at hm);have c0:=XE 0 (by omega);rw[bl]at c0;by_cases q2:b.getD 0 0=2
 case neg=>
  have q2':¬((b.getD 0 0:Nat):Int)=2:=by omega
  have e:JA ⟨P,l⟩ b=O:=by
   unfold JA;rw[if_neg (fun hn=>by omega),if_neg (fun hn=>q2 hn.2)]
  have wz:=fin h0 (h.size+1) [D t P.r,D t P.n,J pv (H l) cv] rfl rfl z0;simp -implicitDefEqProofs only[go_sem,k33,c0,q2',e,r0,wz,k1];exact⟨⟨P,pv,(H l),cv,rfl,by simp⟩,b0.Zt (by omega) _⟩
 rw[q2]at c0;have e2:((2:Nat):Int)=2:=rfl;rw[e2]at c0;have d13:¬d=13:=by omega
 have d33:(33:Int)<=(d:Int):=by omega
 have s13:=fun c'=>RH sb0 (k:=13) (by omega) hm c';simp -implicitDefEqProofs only[go_sem,k33,c0,d13,d33,S];refine (Dh T h0 _ (b.drop 13) (s13 _) (by rw[aw];omega)).use ?_;rintro _ g ⟨rfl,bg⟩;have sg:=bg.size;by_cases q3:Qr (b.drop 13)=0
 case neg=>
  have e:JA ⟨P,l⟩ b=O:=by
   unfold JA;rw[if_neg (fun hn=>by omega),if_pos ⟨hm,q2⟩,if_pos q3]
  rw[qp _ q3];have zg:=bg.get k1 z0;have xg:=bg.get k0 x0;have rg:rd g ⟨h.size,0,O⟩ 3=Q [D t P.r,D t P.n,J pv (H l) cv]:=Zy xg rfl;have wz:=fin g (h.size+1) [D t P.r,D t P.n,J pv (H l) cv] rfl rfl zg;have ZtU:¬h.size=g.size:=by omega
  have aU:¬h.size+1=g.size:=by omega
  have yF:h.size+1<g.size:=by omega
  simp -implicitDefEqProofs only[go_sem,q3,e,rg,wz,ZtU,aU,yF];exact⟨⟨P,pv,(H l),cv,rfl,by simp⟩,((b0.trans (bg.mono (by omega))).Zt (by omega) _).YU (by simp;omega) _⟩
 rw[iQ _ q3,q3];obtain⟨X,hX⟩:∃X:Vt,X=bD (b.drop 13) ⟨XB b 1,⟨XB b 5,XB b 9⟩,0,0,0,0,0⟩:=⟨_,rfl⟩
 have e:JA ⟨P,l⟩ b=if Xj P l X=0 then Q ⟨X.b,Jz l X⟩ else O:=by
  unfold JA;rw[if_neg (fun hn=>by omega),if_pos ⟨hm,q2⟩,if_neg (fun hn=>hn q3),<-hX];rw[show (⟨((XB b 5:Nat):Int),((XB b 9:Nat):Int)⟩:Yw)=X.b by rw[hX];rfl]
 have call:∀G,Ts Zv 8 G (J pv (H l) cv) l->Zd a5 T 97 #[aa #[D t P.r,D t P.n,J pv (H l) cv],aa #[D t (XB b 1:Nat),D t (XB b 5:Nat),D t (XB b 9:Nat),D t (XB (b.drop 13) 0:Nat),D t (XB (b.drop 13) 4:Nat),D t (XB (b.drop 13) 8:Nat),D t (XB (b.drop 13) 12:Nat),D t (XB (b.drop 13) 16:Nat)]] G fun v' h'=>l9 G.size h' v' P l X/\Zk G.size G h':=fun G sG=>by
  rw[hX];exact Ks T G P _ l _ sG (by omega)
 clear hX;generalize XB (b.drop 13) 0=y0 at *;generalize XB (b.drop 13) 4=y4 at *;generalize XB (b.drop 13) 8=y8 at *;generalize XB (b.drop 13) 12=y12 at *;generalize XB (b.drop 13) 16=y16 at *;obtain⟨h1,Xk⟩:=ZQ (g.push (K [D t (y0:Nat),D t (y4:Nat),D t (y8:Nat),D t (y12:Nat),D t (y16:Nat)].toArray 25):Hp);have e1:g.push (K #[Value.int t (y0:Nat),D t (y4:Nat),D t (y8:Nat),D t (y12:Nat),D t (y16:Nat)] 25)=h1:=Xk.symm;simp -implicitDefEqProofs only[go_sem];rw[e1];have b1:Zk h0.size h0 h1:=by rw[Xk];exact bg.YU sg _
 have s1h:h1.size=g.size+1:=by rw[Xk];simp
 have c1h:h1[g.size]? = Q (K [D t (y0:Nat),D t (y4:Nat),D t (y8:Nat),D t (y12:Nat),D t (y16:Nat)].toArray 25):=by rw[Xk];exact Zc
 clear e1 Xk;have x1:=b1.get k0 x0;have z1h:=b1.get k1 z0;have r1:rd h1 ⟨h.size,0,O⟩ 3=Q [D t P.r,D t P.n,J pv (H l) cv]:=Zy x1 rfl;have rc1:rd h1 ⟨g.size,0,O⟩ 5=Q [D t (y0:Nat),D t (y4:Nat),D t (y8:Nat),D t (y12:Nat),D t (y16:Nat)]:=Zy c1h rfl;have c0h:hc h1 ⟨bb,oo,O⟩=Q (D .u8 2):=by rw[b1.hc (by exact Tm)];exact c0
 have k0h:h.size<h1.size:=by omega
 have kch:g.size<h1.size:=by omega
 have yJ:=sb0.Yy b1;have s1':=s0'.Yy b1;have d1:¬d=1:=by omega
 have d5:¬d=5:=by omega
 have d9:¬d=9:=by omega
 have B1:Zk h.size h h1:=b0.trans (b1.mono (by omega));refine VS.mono (N:=fun F' g'=>Zk h1.size h1 g'/\F' 4=al (Q ⟨h.size+1,0,O⟩)/\F' 10=D t (Xj P l X)/\∃A p1 c1,h1.size<=A/\F' 11=al (Q ⟨A,0,O⟩)/\g'[A]? = Q (K (Xu (if Xj P l X=0 then X.b else ⟨0,0⟩) (J p1 (if Xj P l X=0 then Jz l X else []).length c1)).toArray 105)/\Qv h1.size 133 Zv 8 g' (J p1 (if Xj P l X=0 then Jz l X else []).length c1) (if Xj P l X=0 then Jz l X else [])) ?_ ?_ (fun _ _ _ h=>h) (fun _ _ h=>h)
 .refine VS.w (h1.size) [] (.q 0 (.q 1 (.q 2 (.q 4 (.q 5 (.q 7 (.q 8 (.q 11 (.or 3 (.or 6 (.or 9 (.q 10 (.q 12 (.or 13 (.q 14 (.q 15 (.q 16 (.s 17 (.s 18 (.q 19 .nil)))))) (.s 17 (.s 13 (.q 14 (.q 15 (.q 16 (.s 18 (.q 19 .nil)))))))))) (.s 17 (.s 9 (.q 10 (.q 12 (.s 13 (.q 14 (.q 15 (.q 16 (.s 18 (.q 19 .nil))))))))))) (.s 17 (.s 6 (.s 9 (.q 10 (.q 12 (.s 13 (.q 14 (.q 15 (.q 16 (.s 18 (.q 19 .nil)))))))))))) (.s 17 (.s 3 (.s 6 (.s 9 (.q 10 (.q 12 (.s 13 (.q 14 (.q 15 (.q 16 (.s 18 (.q 19 .nil))))))))))))))))))))) mixed (by kernel_rfl) ?_;simp -implicitDefEqProofs only[go_sem,r1,rc1,k0h,kch,k33,d1,d5,d9,c0h,S]
  repeat' (first
    | with_reducible exact Zk.refl _ _
    | with_reducible exact Zk.push (by omega) _
    | (with_reducible refine (Oh T _ bb oo d _ _ _ b 1 (by first|exact yJ|exact yJ.Yy (Zk.push (R _) _)) hm (by omega) rfl (by omega)).pure ?_;simp -implicitDefEqProofs only[go_sem,r1,rc1,k0h,kch,c0h,S])
    | (with_reducible refine (Oh T _ bb oo d _ _ _ b 5 (by first|exact yJ|exact yJ.Yy (Zk.push (R _) _)) hm (by omega) rfl (by omega)).pure ?_;simp -implicitDefEqProofs only[go_sem,r1,rc1,k0h,kch,c0h,S])
    | (with_reducible refine (Oh T _ bb oo d _ _ _ b 9 (by first|exact yJ|exact yJ.Yy (Zk.push (R _) _)) hm (by omega) rfl (by omega)).pure ?_;simp -implicitDefEqProofs only[go_sem,r1,rc1,k0h,kch,c0h,S])
    | with_reducible refine And.intro ?_ ?_)
  all_goals first
   | (refine (call h1 s1').use ?_
      rintro _ g1 ⟨⟨w1,rfl,o1⟩,b1⟩;obtain⟨p1,c1,rfl,_⟩:=o1.open;generalize (if Xj P l X=0 then X.b else ⟨0,0⟩)=Y at *;generalize (if Xj P l X=0 then Jz l X else [])=L at *;generalize Xj P l X=E at *;have s1:=b1.size;unfold Xu;simp -implicitDefEqProofs only[go_sem,b1];exact⟨_,_,_,s1,rfl,Zc,o1.push _⟩)
   | (refine (call (h1.push (K [D t 0,D t 0,J O 0 0].toArray 105)) (s1'.Yy (Zk.push (R _) _))).use ?_
      rintro _ g1 ⟨⟨w1,rfl,o1⟩,b1⟩;obtain⟨p1,c1,rfl,_⟩:=o1.open;generalize (if Xj P l X=0 then X.b else ⟨0,0⟩)=Y at *;generalize (if Xj P l X=0 then Jz l X else [])=L at *;generalize Xj P l X=E at *;have B1:Zk h1.size h1 g1:=(Zk.push (R _) _).trans (b1.mono (by simp));have xA:=b1.get (by simp) Zc;have yA:=fin g1 h1.size [D t Y.r,D t Y.n,J p1 (H L) c1] rfl rfl xA;have hz:=Za xA;unfold Xu;simp -implicitDefEqProofs only[go_sem,B1,yA,hz];exact⟨_,_,_,R _,rfl,ZS xA,(o1.Ya (b:=h1.size) (by simp) _).mono (by simp)⟩)
 .rintro F' g' ⟨hB,f4,f8,A,p1,c1,hA,f6,xA,oA⟩;have z1:=hB.get (by omega) z1h;have k1':=Za z1;have rA:rd g' ⟨A,0,O⟩ 3=_:=Zy xA rfl;generalize hY:(if Xj P l X=0 then X.b else ⟨0,0⟩)=Y at *;generalize hL:(if Xj P l X=0 then Jz l X else [])=L at *;generalize Xj P l X=E at *;unfold Xu at rA;have wz:=fin g' (h.size+1) [D t Y.r,D t Y.n,J p1 (H L) c1] rfl rfl z1;have bb':Zk h.size h (g'.setIfInBounds (h.size+1) (K [D t Y.r,D t Y.n,J p1 (H L) c1].toArray 105)):=(B1.trans (hB.mono (by omega))).Zt (by omega) _;by_cases q:E=0
  .rw[if_pos q]at e hY hL;simp -implicitDefEqProofs only[go_sem,f4,f6,f8,rA,wz,k1',q,e];refine⟨⟨Y,p1,(H L),c1,rfl,fun x hx=>?_⟩,bb'⟩
   cases hx
   exact⟨hY.symm,by rw[hL];exact (oA.Ya (by omega) _).mono (by omega)⟩
  .rw[if_neg q]at e;simp -implicitDefEqProofs only[go_sem,f4,f6,f8,rA,wz,k1',q,e];exact⟨⟨Y,p1,(H L),c1,rfl,by simp⟩,bb'⟩
theorem iR{h:Hp}{bp op m c k n off m' c':Nat}{l:List Nat}(s:Bs h (J (Q ⟨bp,op,O⟩) m c) l)(hm:(H l)=m)(hk:k+n<=m)(ho:off=op+k)(Hl:m'=n):Bs h (J (Q ⟨bp,off,O⟩) m' c') ((l.drop k).take n):=by
 subst ho;subst Hl;have s1:=RH s (k:=k) (by omega) hm c';have e:m-k=(l.drop k).length:=by rw[aw];omega
 rw[e]at s1;exact s1.NL (by rw[aw];omega) c'
def Vh(l:List Nat)(k:Nat):Nat:=1+l.getD k 0
def Y3(l:List Nat)(a:UC)(k:Nat):Option (UC × Nat):=
 if k<(H l)/\k+Vh l k+4<=(H l)/\(TH ((l.drop k).take (Vh l k))).take 4=(l.drop (k+Vh l k)).take 4 then
  (JA a ((l.drop (k+1)).take (Vh l k-1))).map fun x=>(x,k+(Vh l k+4))
 else O
inductive Rec(l:List Nat):UC->Nat->UC->Nat->Prop
 | stop {a:UC} {k:Nat}:Y3 l a k=O->Rec l a k a k
 | go {a a' r:UC} {k k' j:Nat}:Y3 l a k=Q (a',k')->Rec l a' k' r j->Rec l a k r j
def JE:UC:=⟨⟨0,0⟩,[]⟩
def yK(B:Nat)(h':Hp)(v':a7)(l:List Nat)(n:Int):Prop:=∃(r:UC) (k:Nat) (E:Int) (w:a7),v'=.tuple [aa (Xu r.p w).toArray,D t k,D t E].toArray/\Qv B 133 Zv 8 h' w r.l/\k<=(H l)/\(H r.l)<=k /\
 if YW l n then E=0/\Rec l JE 0 r k else E=5/\r=JE/\k=0
theorem bE{l:List Vt}(hs:Srt l)(v:Vt):(Jz l v).length<=(H l)+1:=by
 have:∀l:List Vt,(l.filter (fun x=>decide (x.Zu<v.Zu))).length+(l.filter (fun x=>decide (v.Zu<x.Zu))).length<=(H l):=by
  intro l
  induction l with
  | nil=>simp
  | cons x l ih=>
   simp only[List.filter_cons,aI];by_cases q1:x.Zu<v.Zu
   .rw[if_pos (by simpa using q1),if_neg KQ,aI];omega
   .rw[if_neg (by simpa using q1)];by_cases q2:v.Zu<x.Zu
    .rw[if_pos (by simpa using q2),aI];omega
    .rw[if_neg (by simpa using q2)];omega
 have:=this l;unfold Jz;rw[U,aI];omega
theorem Br{a x:UC}{b:List Nat}(h:JA a b=Q x):(H x.l)<=(H a.l)+1:=by
 unfold JA at h;split at h
 .split at h
  .cases h;simp
  .cases h
 .split at h
  .split at h
   .cases h
   .split at h
    .rename_i q
     cases h
     have:Jy a.p a.l=0:=by
      unfold Xj at q;split at q
      .cases q
      .rename_i hn;simpa using hn
     exact bE (GK this) _
    .cases h
  .cases h
set_option maxHeartbeats 2000000 in
theorem Fc(h:Hp)(v:a7)(n:Int)(l:List Nat)(s:Bs h v l)(hl:(H l)<=140737488355328)(tk:Tk h):
  Zd a5 T 57 #[aa [v,D t n].toArray] h fun v' h'=>yK h.size h' v' l n/\Zk h.size h h':=by
 obtain⟨p,c,rfl,_⟩:=s.open;refine Zd.MQ [_] Tryz.func57 ?_;unfold yK;simp -implicitDefEqProofs only[go_sem];obtain⟨h0,Qn⟩:=ZQ ((h.push (K [J p (H l) c,D t n].toArray 100)).push (K [D t 0,D t 0,J O 0 0].toArray 105):Hp);have b0:Zk h.size h h0:=by rw[Qn];exact ((Zk.refl _ _).add _).add _
 have s0:h0.size=h.size+2:=by rw[Qn];simp
 have z0:h0[h.size+1]? = Q (K [D t 0,D t 0,J O 0 0].toArray 105):=by
  rw[Qn,W,if_pos Hg]
 have e0:(h.push (K #[Value.slice p (H l) c,D t n] 100)).push (K #[Value.int t 0,D t 0,J O 0 0] 105)=h0:=Qn.symm;rw[e0];clear e0 Qn;have fin:∀(G:Hp) (w:List a7),(H w)=3->w.all YC=true->G[h.size+1]? = Q (K [D t 0,D t 0,J O 0 0].toArray 105)->wr G ⟨h.size+1,0,O⟩ w=Q (G.setIfInBounds (h.size+1) (K w.toArray 105)):=by
  intro G w h3 h1 hx;rw[Ye (b:=h.size+1) hx 0 w,Z3 (by rw[h3];rfl),if_pos ⟨by rw[h3];simp,h1⟩]
 refine (UP T h0 _ n l (s.Yy b0) hl).use ?_;rintro _ h1 ⟨b1,o1⟩;have s1:=b1.size;have B1:Zk h.size h h1:=b0.trans (b1.mono nc);have z1:=b1.get nc z0;by_cases ok:YW l n
 case neg=>
  rw[if_neg (show ¬((H l)<=100000/\0<=n/\n<=(H l)) from ok)]at o1;subst o1;have y2:=fin h1 [D t 0,D t 0,J O 0 0] rfl rfl z1;have ZU:h.size+1<h1.size:=nc;have Y4:¬h.size+1=h1.size:=nc;simp -implicitDefEqProofs only[go_sem,y2,Y4,ZU];refine⟨⟨JE,0,5,J O 0 0,rfl,Qv.nil _ _ _ _ _,bA _,R _,?_⟩,(B1.Zt nc _).YU KQ _⟩;rw[if_neg ok];exact⟨rfl,rfl,rfl⟩
 rw[if_pos (show ((H l)<=100000/\0<=n/\n<=(H l)) from ok)]at o1;obtain⟨w,rfl,o1⟩:=o1;obtain⟨pw,cw,rfl,hcw⟩:=o1.open;have l1:=ok.1;obtain⟨h2,VQ⟩:=ZQ ((h1.push (K [J pw (H l) cw,D t n].toArray 100)).push (K [D t 0,D t 0,J O 0 0].toArray 105):Hp);have e2:(h1.push (K #[Value.slice pw (H l) cw,D t n] 100)).push (K #[Value.int t 0,D t 0,J O 0 0] 105)=h2:=VQ.symm;simp -implicitDefEqProofs only[go_sem];rw[e2];have b2:Zk h1.size h1 h2:=by rw[VQ];exact ((Zk.refl _ _).add _).add _
 have s2:h2.size=h1.size+2:=by rw[VQ];simp
 have t2:h2[h1.size]? = Q (K [J pw (H l) cw,D t n].toArray 100):=by
  rw[VQ,W,if_neg Hg,Zc]
 have a2:h2[h1.size+1]? = Q (K [D t 0,D t 0,J O 0 0].toArray 105):=by
  rw[VQ,W,if_pos Hg]
 clear e2 VQ;have z2:=b2.get nc z1;obtain⟨A,hA⟩:=ZQ (h1.size+1);rw[<-hA]at a2 ⊢;have sw:=o1.bs.Yy b2;have B2:Zk h.size h h2:=B1.trans (b2.mono nc);have tk2:Tk h2:=tk.Qx B2;have blo:=o1.Zq.ZX;refine VS.Yj (fun F g=>Zk A h2 g/\F 2=al (Q ⟨h.size+1,0,O⟩)/\F 5=al (Q ⟨h1.size,0,O⟩)/\F 7=al (Q ⟨A,0,O⟩)/\∃(k:Nat) (a:UC) (p1:Option Addr) (c1:Nat),k<=(H l)/\F 8=D t k/\g[A]? = Q (K (Xu a.p (J p1 (H a.l) c1)).toArray 105)/\Qv (A+1) 133 Zv 8 g (J p1 (H a.l) c1) a.l/\(H a.l)<=k/\∀r j,Rec l a k r j->Rec l JE 0 r j)
  (fun F _=>(H l)-(vi (F 8)).toNat) rfl ⟨Zk.refl _ _,rfl,rfl,rfl,0,JE,O,0,bA _,rfl,a2,Qv.nil _ _ _ _ _,bA _,fun _ _ h=>h⟩ ?_
 rintro F g ⟨hg,f2,f5,f7,k,a,p1,c1,hk,f8,xa,oa,hal,ZlC⟩;have tg:=hg.get nc t2;have zg:=hg.get nc z2;have hzA:=Za xa;have fact:∀G,Zk g.size g G->V.hc G ⟨h1.size,0,O⟩=Q (J pw (H l) cw)/\rd G ⟨A,0,O⟩ 3=Q [D t a.p.r,D t a.p.n,J p1 (H a.l) c1] /\
   wr G ⟨h.size+1,0,O⟩ [D t a.p.r,D t a.p.n,J p1 (H a.l) c1]=Q (G.setIfInBounds (h.size+1) (K [D t a.p.r,D t a.p.n,J p1 (H a.l) c1].toArray 105))/\h.size+1<G.size/\Zk A h2 G /\
   G[A]? = Q (K (Xu a.p (J p1 (H a.l) c1)).toArray 105)/\Qv (A+1) 133 Zv 8 G (J p1 (H a.l) c1) a.l/\Bs G (J pw (H l) cw) l:=by
  intro G hG;have tG:=hG.get nc tg;have zG:=hG.get nc zg;have xG:=hG.get nc xa;have bG:Zk A h2 G:=hg.trans (hG.mono nc);exact⟨by rw[Zn tG];rfl,Zy xG rfl,fin G _ rfl rfl zG,Za zG,bG,xG,oa.Yy hG (R _),o1.bs.Yy (b2.trans (bG.mono nc))⟩
 have done:∀G,Zk g.size g G->Y3 l a k=O->(∃(r:UC) (k':Nat) (E:Int) (w:a7),Value.tuple [aa (Xu a.p (J p1 (H a.l) c1)).toArray,D t (k:Nat),D t 0].toArray=.tuple [aa (Xu r.p w).toArray,D t (k':Nat),D t E].toArray/\Qv h.size 133 Zv 8 (G.setIfInBounds (h.size+1) (K [D t a.p.r,D t a.p.n,J p1 (H a.l) c1].toArray 105)) w r.l/\k'<=(H l)/\(H r.l)<=k'/\if YW l n then E=0/\Rec l JE 0 r k' else E=5/\r=JE/\k'=0)/\Zk h.size h (G.setIfInBounds (h.size+1) (K [D t a.p.r,D t a.p.n,J p1 (H a.l) c1].toArray 105)):=by
  intro G hG e;obtain⟨_,_,_,_,bG,_,oG,_⟩:=fact G hG;refine⟨⟨a,k,0,_,rfl,(oG.Ya nc _).mono nc,hk,hal,?_⟩,(B2.trans (bG.mono nc)).Zt nc _⟩;rw[if_pos ok];exact⟨rfl,ZlC _ _ (.stop e)⟩
 obtain⟨rt,ra,wf,hlz,_,_,_,swg⟩:=fact g (Zk.refl _ _);by_cases ZU:k<(H l)
 case neg=>
  have Z8:¬(k:Int)<(H l):=nc;have e:Y3 l a k=O:=by unfold Y3;rw[if_neg (fun hn=>ZU hn.1)]
  simp -implicitDefEqProofs only[go_sem,f2,f5,f7,f8,rt,Z8,ra,wf,hlz];exact done g (Zk.refl _ _) e
 have Z8:(k:Int)<(H l):=nc;obtain⟨q',d',hv,hh⟩:=swg.VA;simp only[Value.slice.injEq,true_and]at hv;obtain⟨rfl,rfl⟩:=hv;obtain⟨bx,ox,rfl,hbx,XE⟩:=hh (by intro e;subst e;simp at ZU);have rx:=XE k ZU;have hx:=Z2 swg.byte k;obtain⟨N,hN⟩:=ZQ (Vh l k);have hN':N=1+l.getD k 0:=hN;have e1:(1:Int)+((l.getD k 0:Nat):Int)=(N:Int):=nc;have e2:(N:Int)+4=((N+4:Nat):Int):=nc;have d1:¬cw=k:=nc;have n0:(0:Int)<(((H l)-k:Nat):Int):=nc;have n1:(0:Int)<=(k:Int):=nc;have n2:(k:Int)<=((H l):Int):=nc;by_cases hsh:(H l)-k<N+4
 case pos=>
  have ZgS:(((H l)-k:Nat):Int)<((N+4:Nat):Int):=nc;have e:Y3 l a k=O:=by unfold Y3;rw[<-hN,if_neg (fun hn=>by omega)]
  simp -implicitDefEqProofs only[go_sem,f2,f5,f7,f8,rt,Z8,ra,wf,hlz,rx,e1,e2,d1,n0,n1,n2,ZgS,S];exact done g (Zk.refl _ _) e
 have ZgS:¬(((H l)-k:Nat):Int)<((N+4:Nat):Int):=nc;have n3:(0:Int)<=(N:Int):=nc;have n4:(N:Int)<=((cw-k:Nat):Int):=nc;simp -implicitDefEqProofs only[go_sem,f2,f5,f7,f8,rt,Z8,rx,e1,e2,d1,n0,n1,n2,n3,n4,ZgS,S];have sN:Bs g (J (Q ⟨bx,ox+k,O⟩) N (cw-k)) ((l.drop k).take N):=iR swg rfl nc rfl rfl;have Bg:Zk h.size h g:=B2.trans (hg.mono nc);refine (Kl T g _ _ sN (tk.Qx Bg)).use ?_;rintro _ g1 ⟨⟨w5,rfl,o5⟩,b5⟩;have e0:RJ ((l.drop k).take N).length=0:=by unfold RJ;rw[a6,aw,if_neg nc]
 rw[e0,if_pos rfl]at o5;rw[e0];have ml:=Qj ((l.drop k).take N);obtain⟨M,hM⟩:=ZQ (TH ((l.drop k).take N));rw[<-hM]at o5 ml;obtain⟨p5,c5,rfl,hc5⟩:=o5.open;have sM:=o5.bs;obtain⟨rt1,ra1,wf1,ZtW,bA1,xA1,oA1,sw1⟩:=fact g1 b5;have s5:=b5.size;have h4:(4:Int)<=(c5:Int):=nc;have n5:((N+4:Nat):Int)<=((cw-k:Nat):Int):=nc;have n6:(N:Int)<=((N+4:Nat):Int):=nc;have n7:(0:Int)<=((N+4:Nat):Int):=nc;have d2:¬cw-k=N:=nc;have hMd:Bs g1 (J p5 4 c5) (M.take 4):=sM.NL nc c5;have hRd:Bs g1 (J (Q ⟨bx,ox+k+N,O⟩) (N+4-N) (cw-k-N)) ((l.drop (k+N)).take 4):=iR sw1 rfl nc nc nc;simp -implicitDefEqProofs only[go_sem,f2,f5,f7,f8];refine VS.w (g1.size) [] (.q 0 (.q 1 (.q 2 (.q 3 (.q 4 (.q 5 (.q 6 (.s 7 (.q 8 .nil))))))))) mixed uf ?_;simp -implicitDefEqProofs only[go_sem,f2,f5,f7,f8,h4,e2,n3,n5,n6,n7,d2,S];refine (CM T g1 _ _ (M.take 4) ((l.drop (k+N)).take 4) hMd hRd aad).pure ?_;have eR:(l.drop (k+N)).take 4=(l.drop (k+Vh l k)).take 4:=by rw[<-hN]
 by_cases heq:M.take 4=(l.drop (k+N)).take 4
 case neg=>
  have hd:decide (M.take 4=(l.drop (k+N)).take 4)=false:=decide_eq_false heq;have e:Y3 l a k=O:=by
   unfold Y3;rw[<-hN,<-hM,if_neg (fun hn=>heq hn.2.2)]
  rw[hd];simp -implicitDefEqProofs only[go_sem,f2,f5,f7,f8,ra1,wf1,ZtW];exact done g1 b5 e
 have hd:decide (M.take 4=(l.drop (k+N)).take 4)=true:=decide_eq_true heq;rw[hd];obtain⟨bd,gT⟩:=ZQ ((l.drop (k+1)).take (N-1));have ZeU:Y3 l a k=(JA a bd).map fun x=>(x,k+(N+4)):=by
  unfold Y3;rw[<-hN,<-hM,if_pos ⟨ZU,nc,heq⟩,gT]
 have lbd:(H bd)=N-1:=by rw[gT,a6,aw];omega
 have sbd:Bs g1 (J (Q ⟨bx,ox+k+1,O⟩) (N-1) (cw-k-1)) bd:=by rw[gT];exact iR sw1 rfl nc nc rfl
 have call:∀G,Zk g1.size g1 G->Zd a5 T 76 #[aa #[D t a.p.r,D t a.p.n,J p1 (H a.l) c1],J (Q ⟨bx,ox+k+1,O⟩) (N-1) (cw-k-1)] G fun v' h'=>Bq G.size h' v' a bd/\Zk G.size G h':=fun G hG=>
  yI T G a.p p1 c1 a.l _ (N-1) (cw-k-1) bd (oA1.ts.Yy hG) (sbd.Yy hG) lbd nc nc nc
 have n8:(1:Int)<=(N:Int):=nc;have d3:¬cw-k=1:=nc;have q1:A<g1.size:=nc;have ZlE:∀(G:Hp) (b:Nat) (z w:List a7),(H z)=3->(H w)=3->w.all YC=true->G[b]? = Q (K z.toArray 105)->wr G ⟨b,0,O⟩ w=Q (G.setIfInBounds b (K w.toArray 105)):=by
  intro G b z w hz h3 h1 hx;rw[Ye (b:=b) hx 0 w,Z3 (by rw[h3,hz]),if_pos ⟨by rw[h3,hz];simp,h1⟩]
 simp -implicitDefEqProofs only[go_sem,f2,f5,f7,f8];refine VS.mono (N:=fun F' g'=>Zk g1.size g1 g'/\F' 2=al (Q ⟨h.size+1,0,O⟩)/\F' 5=al (Q ⟨h1.size,0,O⟩)/\F' 7=al (Q ⟨A,0,O⟩)/\F' 8=D t k/\F' 10=D t N/\F' 14=am (JA a bd).isSome/\∃(A':Nat) (P:Yw) (p m:_) (c:Nat),g1.size<=A'/\F' 13=al (Q ⟨A',0,O⟩)/\g'[A']? = Q (K (Xu P (J p m c)).toArray 105)/\∀x,JA a bd=Q x->P=x.p/\Qv g1.size 133 Zv 8 g' (J p m c) x.l) ?_ ?_ (fun _ _ _ h=>h) (fun _ _ h=>h)
 .refine VS.w (g1.size) [] (.q 0 (.q 1 (.q 2 (.q 3 (.or 4 (.q 5 (.q 6 (.q 7 (.s 8 (.s 9 (.q 10 .nil)))))) (.s 8 (.s 4 (.q 5 (.q 6 (.q 7 (.s 9 (.q 10 .nil)))))))))))) mixed uf ?_;simp -implicitDefEqProofs only[go_sem,f2,f5,f7,f8,ra1,q1,n3,n4,n8,d3,S];refine⟨?_,?_⟩
  .refine (call g1 (Zk.refl _ _)).use ?_;rintro _ g2 ⟨⟨P,p2,m2,c2,rfl,h2x⟩,b6⟩;have s6:=b6.size;unfold Xu;simp -implicitDefEqProofs only[go_sem,f2,f5,f7,f8,b6];exact⟨_,_,_,_,_,s6,rfl,Zc,fun x hx=>⟨(h2x x hx).1,(h2x x hx).2.push _⟩⟩
  .refine (call (g1.push (K [D t 0,D t 0,J O 0 0].toArray 105)) (Zk.push (R _) _)).use ?_;rintro _ g2 ⟨⟨P,p2,m2,c2,rfl,h2x⟩,b6⟩;have B6:Zk g1.size g1 g2:=(Zk.push (R _) _).trans (b6.mono Hg);have xA:=b6.get Hg Zc;have yA:=ZlE g2 g1.size _ [D t P.r,D t P.n,J p2 m2 c2] rfl rfl rfl xA;have hz:=Za xA;unfold Xu;simp -implicitDefEqProofs only[go_sem,f2,f5,f7,f8,B6,yA,hz];exact⟨_,_,_,_,_,R _,rfl,ZS xA,fun x hx=>⟨(h2x x hx).1,((h2x x hx).2.Ya (b:=g1.size) Hg _).mono Hg⟩⟩
 rintro F' g' ⟨hB,f2,f5,f7,f8,f10,f14,A',P,p2,m2,c2,hA',f13,xA',hx'⟩;have sB:=hB.size;have hgG:Zk g.size g g':=b5.trans (hB.mono s5);obtain⟨rt2,qr,wf2,ZtX,bA2,xA2,oA2,sw2⟩:=fact g' hgG
 cases tH:JA a bd with
 | none=>
  have e:Y3 l a k=O:=by rw[ZeU,tH];rfl
  rw[tH]at f14;simp -implicitDefEqProofs only[go_sem,f2,f5,f7,f8,f10,f14,qr,wf2,ZtX];exact done g' hgG e
 | some x=>
  obtain⟨rfl,ox2⟩:=hx' x tH;obtain⟨p3,c3,e3,_⟩:=ox2.open;simp only[Value.slice.injEq]at e3;obtain⟨rfl,rfl,rfl⟩:=e3;have e:Y3 l a k=Q (x,k+(N+4)):=by rw[ZeU,tH];rfl
  have rA':rd g' ⟨A',0,O⟩ 3=Q [D t x.p.r,D t x.p.n,J p2 (H x.l) c2]:=Zy xA' rfl;have wA:=ZlE g' A _ [D t x.p.r,D t x.p.n,J p2 (H x.l) c2] rfl rfl rfl xA2;have zA:=Za xA2;have e4:(k:Int)+((N+4:Nat):Int)=((k+(N+4):Nat):Int):=nc;have lx:=Br tH;rw[tH]at f14;simp -implicitDefEqProofs only[go_sem,f2,f5,f7,f8,f10,f13,f14,rA',wA,zA,e2,e4];refine⟨⟨bA2.Zt (R _) _,f2,f5,f7,k+(N+4),x,p2,c2,nc,rfl,ZS xA2,(ox2.Ya nc _).mono nc,nc,fun r j hr=>ZlC r j (.go e hr)⟩,?_⟩;simp only[vi,Zr,↓reduceIte,f8];omega
def yL(B:Nat)(h':Hp)(v':a7)(l:List Nat)(n:Int):Prop:=∃(r:UC) (k:Nat) (E:Int) (w:a7),v'=.tuple [aa [w,D t (if E=0 then (if (k:Int)<n then (k:Int) else n) else 0)].toArray,D t E].toArray/\Yx B 5 h' w (if E=0 then l.take k else [])/\k<=(H l) /\
 if YW l n then E=0/\Rec l JE 0 r k else E=5/\r=JE/\k=0
theorem qs(h:Hp)(v:a7)(n:Int)(l:List Nat)(s:Bs h v l)(W0:Ph v)(hl:(H l)<=140737488355328)(tk:Tk h):
  Zd a5 T 56 #[aa [v,D t n].toArray] h fun v' h'=>yL h.size h' v' l n/\Zk h.size h h':=by
 obtain⟨p,c,rfl,_⟩:=s.open;have W0:(H l)<=c:=W0;refine Zd.MQ [_] Tryz.func56 ?_;unfold yL;simp -implicitDefEqProofs only[go_sem];obtain⟨h0,Qn⟩:=ZQ ((h.push (K [J p (H l) c,D t n].toArray 100)).push (K [J O 0 0,D t 0].toArray 100):Hp);have b0:Zk h.size h h0:=by rw[Qn];exact ((Zk.refl _ _).add _).add _
 have s0:h0.size=h.size+2:=by rw[Qn];simp
 have t0:h0[h.size]? = Q (K [J p (H l) c,D t n].toArray 100):=by
  rw[Qn,W,if_neg Hg,Zc]
 have z0:h0[h.size+1]? = Q (K [J O 0 0,D t 0].toArray 100):=by
  rw[Qn,W,if_pos Hg]
 have e0:(h.push (K #[Value.slice p (H l) c,D t n] 100)).push (K #[Value.slice O 0 0,D t 0] 100)=h0:=Qn.symm;have e0':(h.push (K [Value.slice p (H l) c,D t n].toArray 100)).push (K [Value.slice O 0 0,D t 0].toArray 100)=h0:=Qn.symm
 first|rw[e0]|rw[e0']
 clear e0 e0' Qn;refine (Fc T h0 _ n l (s.Yy b0) hl (tk.Qx b0)).use ?_;rintro _ h1 ⟨⟨r,k,E,w1,rfl,o1,hk,hr,q⟩,b1⟩;have s1:=b1.size;obtain⟨p1,c1,rfl,_⟩:=o1.open;unfold Xu;obtain⟨h2,VQ⟩:=ZQ (h1.push (K [D t r.p.r,D t r.p.n,J p1 (H r.l) c1].toArray 105):Hp);have b2:Zk h1.size h1 h2:=by rw[VQ];exact Zk.push (R _) _
 have s2:h2.size=h1.size+1:=by rw[VQ];simp
 have B2:Zk h.size h h2:=b0.trans ((b1.mono nc).trans (b2.mono nc));have t2:=b2.get nc (b1.get nc t0);have z2:=b2.get nc (b1.get nc z0);have y2:=Ye z2 0;have I6:h.size+1<h2.size:=nc;have eh2:h1.push (K #[Value.int t r.p.r,D t r.p.n,J p1 (H r.l) c1] 105)=h2:=VQ.symm;clear VQ;by_cases ok:YW l n
 case neg=>
  have q0:=q;rw[if_neg ok]at q;obtain⟨rfl,rfl,rfl⟩:=q;have z1:=b1.get nc z0;have y1:=Ye z1 0;have Y4:¬h.size+1=h1.size:=nc;have yF:h.size+1<h1.size:=nc;have B1:Zk h.size h h1:=b0.trans (b1.mono nc);simp -implicitDefEqProofs only[go_sem,y1,Y4,yF];refine⟨⟨JE,0,5,J O 0 0,rfl,Yx.nil _ _ _,bA _,q0⟩,?_⟩;exact (B1.Zt nc _).YU KQ _
 have q0:=q;rw[if_pos ok]at q;obtain⟨rfl,q⟩:=q;have l1:=ok.1;have r2:V.hc h2 ⟨h.size,0,O⟩=Q (J p (H l) c):=by rw[Zn t2];rfl
 have n2:V.hc h2 ⟨h.size,1,O⟩=Q (D t n):=by rw[Zn t2];rfl
 have k1:(0:Int)<=(k:Int):=nc;have k2:(k:Int)<=(c:Int):=nc;have q1:h.size<h2.size:=nc;simp -implicitDefEqProofs only[go_sem];rw[eh2];refine VS.w (h2.size) [10,11] (.q 0 (.q 1 (.q 2 (.q 3 (.q 5 (.q 6 (.q 7 (.q 8 (.s 4 (.q 9 (.w 10 (.w 11 .nil)))))))))))) mixed uf ?_;simp -implicitDefEqProofs only[go_sem,r2,n2,k1,k2,q1,S];refine (PM T h2 _ (l.take k) ((s.Yy B2).NL hk c) aad).use ?_;rintro w3 h3 ⟨o3,b3⟩;obtain⟨p3,c3,rfl,_⟩:=o3.open;have s3:=b3.size;have z3:=b3.get nc z2;have oZ:h.size+1<h3.size:=nc;have y3:=Ye z3 0;simp -implicitDefEqProofs only[go_sem,b3,y3,oZ];refine⟨⟨r,k,0,_,rfl,?_,hk,q0⟩,(B2.trans (b3.mono nc)).Zt nc _⟩;exact (o3.Ya nc _).mono nc
def Ja(rc:List Nat):List Nat:=Dv (Uz (rc.getD 0 0)) (rc.drop 1)
def Xv(l:List Nat)(i:Nat):Int:=((XB l (4*i):Nat):Int)
def Bt(PL:List Nat)(now:Int):Int:=S7 ((PL.take 22).getD 0 0:Nat) ((PL.take 22).getD 1 0:Nat) (XB (PL.take 22) 2:Nat) (Xv (PL.drop 22) 0) (Xv (PL.drop 22) 1) (Xv (PL.drop 22) 2) (Xv (PL.drop 22) 3) (Xv (PL.drop 22) 4) now
def ma(PL:List Nat)(X:Nat)(now:Int):Int:=if Xv (PL.drop 22) 0≠0/\Xv (PL.drop 22) 1≠(X:Nat) then 11 else Bt PL now
def bF(PL:List Nat)(X:Nat)(now:Int):Int:=if Qr (PL.drop 22)≠0 then Qr (PL.drop 22) else ma PL X now
def bH(PL:List Nat)(X:Nat)(now:Int):Int:=if QJ U9 (PL.take 22)≠0 then QJ U9 (PL.take 22) else bF PL X now
def bI(PL:List Nat)(X:Nat)(now:Int):Int:=if (H PL)≠42 then 3 else bH PL X now
def DB(te:Int)(PL:List Nat)(X:Nat)(now:Int):Int:=if te≠0 then te else bI PL X now
def YP(rc:List Nat)(now:Int):Int:=
 if (H rc)=0 then 13 else if Qd (rc.getD 0 0:Nat)≠0 then Qd (rc.getD 0 0:Nat) else
 DB (U6 (Uz (rc.getD 0 0)) 0 0 JK (rc.drop 1)) (Ja rc) (rc.getD 0 0) now
def bJ(rc:List Nat)(now:Int):List a7:=if YP rc now=0 then QW (Xv ((Ja rc).drop 22) 0) (Xv ((Ja rc).drop 22) 1) (Xv ((Ja rc).drop 22) 2) (Xv ((Ja rc).drop 22) 3) (Xv ((Ja rc).drop 22) 4) else I4
theorem iS{key l:List Nat}(h:QJ key l=0):Bl key l=[D t (l.getD 0 0:Nat),D t (l.getD 1 0:Nat),D t (XB l 2:Nat)]:=by unfold Bl;rw[if_pos h];rfl
theorem qt{key l:List Nat}(h:¬QJ key l=0):Bl key l=[D t 0,D t 0,D t 0]:=by unfold Bl;rw[if_neg h];rfl
theorem qu{l:List Nat}(h:Qr l=0):Gw l=[D t (Xv l 0),D t (Xv l 1),D t (Xv l 2),D t (Xv l 3),D t (Xv l 4)]:=by unfold Gw;rw[if_pos h];rfl
theorem qv{l:List Nat}(h:¬Qr l=0):Gw l=[D t 0,D t 0,D t 0,D t 0,D t 0]:=by unfold Gw;rw[if_neg h];rfl
theorem UV{rc:List Nat}{now:Int}(h:¬YP rc now=0):bJ rc now=[D t 0,D t 0,D t 0,D t 0,D t 0]:=by unfold bJ;rw[if_neg h];rfl
theorem qw{rc:List Nat}{now:Int}(h:YP rc now=0):bJ rc now=[D t (Xv ((Ja rc).drop 22) 0),D t (Xv ((Ja rc).drop 22) 1),D t (Xv ((Ja rc).drop 22) 2),D t (Xv ((Ja rc).drop 22) 3),D t (Xv ((Ja rc).drop 22) 4)]:=by unfold bJ;rw[if_pos h];rfl
set_option maxHeartbeats 2000000 in
theorem yM(h:Hp)(v:a7)(rc:List Nat)(now:Int)(s:Bs h v rc)(W0:Ph v)(hrl:(H rc)<=140737488355328)(tk:Tk h)(tn:BX 1 niv Pf h):
  Zd a5 T 66 #[v,D t now] h fun v' h'=>v'=.tuple [aa (bJ rc now).toArray,D t (YP rc now)].toArray/\Zk h.size h h':=by
 obtain⟨p,c,rfl,_⟩:=s.open;have kJ:(H rc)<=c:=W0;refine Zd.MQ [_,_] Tryz.func66 ?_;simp -implicitDefEqProofs only[go_sem];obtain⟨h0,Qn⟩:=ZQ (h.push (K [D t 0,D t 0,D t 0,D t 0,D t 0].toArray 25):Hp);have b0:Zk h.size h h0:=by rw[Qn];exact (Zk.refl _ _).add _
 have s0:h0.size=h.size+1:=by rw[Qn];simp
 have z0:h0[h.size]? = Q (K [D t 0,D t 0,D t 0,D t 0,D t 0].toArray 25):=by rw[Qn];exact Zc
 have e0:h.push (K #[Value.int t 0,D t 0,D t 0,D t 0,D t 0] 25)=h0:=Qn.symm;have e0':h.push (K [Value.int t 0,D t 0,D t 0,D t 0,D t 0].toArray 25)=h0:=Qn.symm
 first|rw[e0]|rw[e0']
 clear e0 e0' Qn;have fin:∀(G:Hp) (w:List a7),(H w)=5->w.all YC=true->G[h.size]? = Q (K [D t 0,D t 0,D t 0,D t 0,D t 0].toArray 25)->wr G ⟨h.size,0,O⟩ w=Q (G.setIfInBounds h.size (K w.toArray 25)):=by
  intro G w h3 h1 hx;rw[Ye (b:=h.size) hx 0 w,Z3 (by rw[h3];rfl),if_pos ⟨by rw[h3];simp,h1⟩]
 by_cases l0:(H rc)=0
 case pos=>
  have l0':((H rc):Int)=0:=by omega
  have ee:=show YP rc now=13 by unfold YP;rw[if_pos l0]
  rw[UV (by rw[ee];exact (by decide)),ee];have yz:=fin h0 [D t 0,D t 0,D t 0,D t 0,D t 0] rfl rfl z0;have hz:=Za z0;simp -implicitDefEqProofs only[go_sem,l0',yz,hz]
  try exact (b0).Zt (R _) _
 have l0':¬((H rc):Int)=0:=by omega
 have n0:(0:Int)<((H rc):Int):=by omega
 have n1:(1:Int)<=((H rc):Int):=by omega
 obtain⟨q',d',hv,hh⟩:=(s.Yy b0).VA;simp only[Value.slice.injEq,true_and]at hv;obtain⟨rfl,rfl⟩:=hv;obtain⟨bb,oo,rfl,Tm,XE⟩:=hh (by intro e;subst e;simp at l0);have x0:=XE 0 (by omega);rw[bl]at x0;have Pq:=Z2 s.byte 0;obtain⟨X,hX⟩:=ZQ (rc.getD 0 0);rw[<-hX]at x0 Pq;obtain⟨PL,hPL⟩:=ZQ (Dv (Uz X) (rc.drop 1));obtain⟨te,hte⟩:=ZQ (U6 (Uz X) 0 0 JK (rc.drop 1));have ePL:Ja rc=PL:=by rw[hPL,hX];rfl
 have E00:YP rc now=if Qd (X:Nat)≠0 then Qd (X:Nat) else DB te PL X now:=by
  unfold YP;rw[if_neg l0,<-hX,<-hte,ePL]
 simp -implicitDefEqProofs only[go_sem,l0',n0,x0];refine (G9 T h0 _ (tk.Qx b0)).use ?_;rintro _ h1 ⟨⟨w1,rfl,k1,o1,f1⟩,b1⟩;have B1:=b0.trans (b1.mono b0.size);have s1:=b1.size;have z1:=b1.get (by omega) z0;by_cases ke:Qd (X:Nat)=0
 case neg=>
  generalize Qd (X:Nat)=KE at *;have ee:=show YP rc now=KE by rw[E00,if_pos ke]
  rw[UV (by rw[ee];exact ke),ee];have yz:=fin h1 [D t 0,D t 0,D t 0,D t 0,D t 0] rfl rfl z1;have hz:=Za z1;simp -implicitDefEqProofs only[go_sem,ke,yz,hz]
  try exact (B1).Zt (R _) _
 have E0:YP rc now=DB te PL X now:=by rw[E00,if_neg (fun hn=>hn ke)]
 rw[ke,if_pos rfl,S]at o1;rw[ke];have x7:X<=7:=by unfold Qd at ke;split at ke<;>omega
 obtain⟨p1,c1,rfl,Wr⟩:=o1.open;have lk:=Of X;obtain⟨P1,hP1⟩:=ZQ (if c=1 then Q (⟨bb,oo,O⟩:Addr) else Q ⟨bb,oo+1,O⟩);have sD:Bs h1 (J P1 ((H rc)-1) (c-1)) (rc.drop 1):=by
  have sb1:=(s.Yy b0).Yy b1;by_cases hc:c=1
  .have wZ:(H rc)=1:=by omega
   have hd:rc.drop 1=[]:=List.drop_eq_nil_of_le (by omega);rw[hd,wZ,hc];exact⟨(UE.Eo 0 0 1 h1 P1).sl,fun x hx=>by cases hx⟩
  .rw[hP1,if_neg hc];exact RH sb1 (k:=1) (by omega) rfl _
 have Zt2:Ph (J P1 ((H rc)-1) (c-1)):=by show (H rc)-1<=c-1;omega
 have htk:Zd a5 T 81 #[aa #[J p1 (Uz X).length c1,D t 0,D t 0,am false,am false,am false,am false,am false,am false,am false,am false],J P1 ((H rc)-1) (c-1)] h1 fun v' h'=>Bf h1.size h' v' (Uz X) 0 0 JK (rc.drop 1)/\Zk h1.size h1 h':=aQ T h1 _ _ (Uz X) (rc.drop 1) 0 0 JK rfl o1 sD k1 Zt2;simp -implicitDefEqProofs only[go_sem,n1]
 try rw[<-hP1]
 refine htk.use ?_;rintro _ h2 ⟨⟨cw,w2,rfl,⟨w3,rfl,o3⟩,o2⟩,b2⟩;rw[<-hte]at o2 o3 ⊢;rw[<-hPL]at o2;have B2:=B1.trans (b2.mono B1.size);have s2:=b2.size;have z2:=b2.get (by omega) z1;obtain⟨CC,hCC⟩:=ZQ (Yc w3 (if te=0 then 0 else 0) (if te=0 then max 0 (((Vv (rc.drop 1):Nat):Int)+1) else 0) (if te=0 then Iv 0 JK (Vv (rc.drop 1)) else JK));obtain⟨p3,c3,rfl,_⟩:=o3.open;have lsn:(if te=0 then Iv 0 JK (Vv (rc.drop 1)) else JK).length=8:=by
  split
  .exact Sk _ _
  .rfl
 have tV:(H CC)=11:=by rw[hCC];exact YN _ _ _ _ lsn
 have hCo:CC.all YC=true:=by rw[hCC];exact UQ _ _ _
 have hCp:Y9 [Value.slice O 0 0,D t 0,D t 0,am false,am false,am false,am false,am false,am false,am false,am false] 0 CC=CC:=Z3 (by rw[tV];rfl);have ZgU:(H CC)<=11:=by omega
 rw[<-hCC];obtain⟨h3,G8⟩:=ZQ (h2.push (K CC.toArray 66):Hp);have b3:Zk h2.size h2 h3:=by rw[G8];exact Zk.push (R _) _
 have s3:h3.size=h2.size+1:=by rw[G8];simp
 have z3:=b3.get (by omega) z2;have B3:=B2.trans (b3.mono B2.size);have o23:=o2.Yy b3 (R _);obtain⟨p2,c2,rfl,F9⟩:=o2.open;have yz2:=fin h2 [D t 0,D t 0,D t 0,D t 0,D t 0] rfl rfl z2;have ZgR:¬h.size=h2.size:=by omega
 have I6:h.size<h2.size:=by omega
 by_cases te0:te=0
 case neg=>
  have ee:YP rc now=te:=by rw[E0];unfold DB;rw[if_pos te0]
  rw[UV (by rw[ee];exact te0),ee];simp -implicitDefEqProofs only[go_sem,tV,hCo,hCp,ZgU,te0,yz2,ZgR,I6]
  try exact (B2.Zt (R _) _).YU (by simp;omega) _
 have E1:YP rc now=bI PL X now:=by rw[E0];unfold DB;rw[if_neg (fun hn=>hn te0)]
 rw[if_pos te0]at o23 F9
 try simp only[if_pos te0]
 by_cases l42:(H PL)=42
 case neg=>
  have ZcU:¬((H PL):Int)=42:=by omega
  have ee:YP rc now=3:=by rw[E1];unfold bI;rw[if_pos l42]
  rw[UV (by rw[ee];decide),ee];simp -implicitDefEqProofs only[go_sem,tV,hCo,hCp,ZgU,te0,ZcU,yz2,ZgR,I6]
  try exact (B2.Zt (R _) _).YU (by simp;omega) _
 have ZcU:((H PL):Int)=42:=by omega
 have E2:YP rc now=bH PL X now:=by rw[E1];unfold bI;rw[if_neg (fun hn=>hn l42)]
 simp -implicitDefEqProofs only[go_sem,tV,hCo,hCp,ZgU,te0,ZcU];rw[<-G8];clear G8 hCC o2 o3 hte;have n22:(22:Int)<=(c2:Int):=by omega
 have sPL:=o23.bs;have sT:Bs h3 (J p2 22 c2) (PL.take 22):=sPL.NL (by omega) c2;have cT:Ph (J p2 22 c2):=by show 22<=c2;omega
 obtain⟨PE,hPE⟩:=ZQ (QJ U9 (PL.take 22));obtain⟨tc,tr,tu,hT,Zt7⟩:∃tc tr tu:Int,Bl U9 (PL.take 22)=[D t tc,D t tr,D t tu]/\(PE=0->tc=((PL.take 22).getD 0 0:Nat)/\tr=((PL.take 22).getD 1 0:Nat)/\tu=(XB (PL.take 22) 2:Nat)):=by
  rw[hPE];by_cases q:QJ U9 (PL.take 22)=0
  .exact⟨_,_,_,iS q,fun _=>⟨rfl,rfl,rfl⟩⟩
  .exact⟨_,_,_,qt q,fun hn=>(q hn).elim⟩
 have tk3:=tk.Qx B3
 try simp -implicitDefEqProofs only[go_sem,ZcU]
 refine VS.mono (N:=fun F' g'=>Zk h3.size h3 g'/\F' 0=J (Q ⟨bb,oo,O⟩) (H rc) c/\F' 1=D t now/\F' 4=al (Q ⟨h.size,0,O⟩)/\F' 9=J p2 (H PL) c2/\F' 7=D t PE/\∃A,h3.size<=A/\F' 10=al (Q ⟨A,0,O⟩)/\g'[A]? = Q (K [D t tc,D t tr,D t tu].toArray 33)) ?_ ?_ (fun _ _ _ h=>h) (fun _ _ h=>h)
 .refine VS.w (h3.size) [] (.q 1 (.q 2 (.or 0 (.or 3 (.q 4 (.q 5 (.q 6 (.s 7 (.s 8 (.q 9 .nil)))))) (.s 7 (.s 3 (.q 4 (.q 5 (.q 6 (.s 8 (.q 9 .nil)))))))) (.s 7 (.s 0 (.s 3 (.q 4 (.q 5 (.q 6 (.s 8 (.q 9 .nil))))))))))) mixed (by kernel_rfl) ?_;simp -implicitDefEqProofs only[go_sem,n22];have zt:∀(G:Hp) (k:Nat) (w:List a7),(H w)=3->w.all YC=true->G[k]? = Q (K [D t 0,D t 0,D t 0].toArray 33)->wr G ⟨k,0,O⟩ w=Q (G.setIfInBounds k (K w.toArray 33)):=by
   intro G k w h3 h1 hx;rw[Ye (b:=k) hx 0 w,Z3 (by rw[h3];rfl),if_pos ⟨by rw[h3];simp,h1⟩]
  refine⟨?_,?_⟩
  .refine (Kr T h3 tk3).use ?_;rintro w4 h4 ⟨⟨k4,o4⟩,b4⟩;have s4:=b4.size;simp -implicitDefEqProofs only[go_sem,b4,n22];refine⟨?_,?_⟩
   .refine (GZ T h4 _ _ U9 (PL.take 22) o4 (sT.Yy b4) cT (tk3.Qx b4)).use ?_;rintro _ h5 ⟨rfl,b5⟩;have s5:=b5.size;have yN:Zk h3.size h3 h5:=b4.trans (b5.mono s4);rw[hT,<-hPE];simp -implicitDefEqProofs only[go_sem,yN];exact⟨_,by omega,rfl,Zc⟩
   .have bp:Zk h4.size h4 (h4.push (K [D t 0,D t 0,D t 0].toArray 33)):=Zk.push (R _) _;have bp3:Zk h3.size h3 (h4.push (K [D t 0,D t 0,D t 0].toArray 33)):=b4.trans (bp.mono s4)
    first|refine⟨bp3,?_⟩|skip
    refine (GZ T (h4.push (K [D t 0,D t 0,D t 0].toArray 33)) _ _ U9 (PL.take 22) (o4.Yy bp) ((sT.Yy b4).Yy bp) cT ((tk3.Qx b4).Qx bp)).use ?_;rintro _ h5 ⟨rfl,b5⟩;have s5:=b5.size;have yN:Zk h3.size h3 h5:=bp3.trans (b5.mono (by simp;omega));have xA:=b5.get (by simp) Zc;have yA:=zt h5 h4.size [D t tc,D t tr,D t tu] rfl rfl xA;have hz:=Za xA;rw[hT,<-hPE];simp -implicitDefEqProofs only[go_sem,yN,yA,hz]
    first
     | exact⟨yN.Zt (by omega) _,yN.Zt (by omega) _,_,by omega,rfl,ZS xA⟩
     | exact⟨yN.Zt (by omega) _,_,by omega,rfl,ZS xA⟩
     | exact⟨_,by omega,rfl,ZS xA⟩
  .have bp3:Zk h3.size h3 (h3.push (K [D t 0,D t 0,D t 0].toArray 33)):=Zk.push (R _) _
   first|refine⟨bp3,?_⟩|skip
   refine (Kr T (h3.push (K [D t 0,D t 0,D t 0].toArray 33)) (tk3.Qx bp3)).use ?_;rintro w4 h4 ⟨⟨k4,o4⟩,b4⟩;have s4:=b4.size;have d7:Zk h3.size h3 h4:=bp3.trans (b4.mono (by simp));simp -implicitDefEqProofs only[go_sem,d7,n22];refine (GZ T h4 _ _ U9 (PL.take 22) o4 (sT.Yy d7) cT (tk3.Qx d7)).use ?_;rintro _ h5 ⟨rfl,b5⟩;have s5:=b5.size;have yN:Zk h3.size h3 h5:=d7.trans (b5.mono d7.size);have xA:=b5.get (by simp at s4;omega) (b4.get (by simp) Zc);have yA:=zt h5 h3.size [D t tc,D t tr,D t tu] rfl rfl xA;have hz:=Za xA;rw[hT,<-hPE];simp -implicitDefEqProofs only[go_sem,yN,yA,hz]
   first
    | exact⟨yN.Zt (by omega) _,yN.Zt (by omega) _,_,by omega,rfl,ZS xA⟩
    | exact⟨yN.Zt (by omega) _,_,by omega,rfl,ZS xA⟩
    | exact⟨_,by omega,rfl,ZS xA⟩
 rintro F h6 ⟨b6,f0,f1,f4,f9,f7,A,hA3,f10,t6⟩;have hA6:=Za t6;have z6:=b6.get (by omega) z3;have B6:=B3.trans (b6.mono B3.size);by_cases pe:PE=0
 case neg=>
  have ee:=show YP rc now=PE by rw[E2];unfold bH;rw[<-hPE,if_pos pe]
  rw[UV (by rw[ee];exact pe),ee];have yz:=fin h6 [D t 0,D t 0,D t 0,D t 0,D t 0] rfl rfl z6;have hz:=Za z6;simp -implicitDefEqProofs only[go_sem,f0,f1,f4,f9,f7,f10,pe,yz,hz]
  try exact (B6).Zt (R _) _
 have E3:YP rc now=bF PL X now:=by rw[E2];unfold bH;rw[<-hPE,if_neg (fun hn=>hn pe)]
 obtain⟨rfl,rfl,rfl⟩:=Zt7 pe;have n42:(22:Int)<=((H PL):Int):=by omega
 obtain⟨q2,d2,iE,VQ⟩:=sPL.VA;simp only[Value.slice.injEq,true_and]at iE;obtain⟨rfl,rfl⟩:=iE;obtain⟨b22,o22,rfl,_,_⟩:=VQ (by intro e;rw[e]at l42;cases l42);have d22:¬c2=22:=by omega
 have sB:=RH (sPL.Yy b6) (k:=22) (by omega) rfl (c2-22);simp -implicitDefEqProofs only[go_sem,f0,f1,f4,f9,f7,f10,pe,n42,d22];refine (Dh T h6 _ (PL.drop 22) sB (by rw[aw];omega)).use ?_;rintro _ h7 ⟨rfl,b7⟩;have s7:=b7.size;have z7:=b7.get (by omega) z6;have t7:=b7.get hA6 t6;have B7:=B6.trans (b7.mono B6.size);obtain⟨DE,hDE⟩:=ZQ (Qr (PL.drop 22));have Y4:¬h.size=h7.size:=by omega
 have GW:h.size<h7.size:=by omega
 by_cases de:DE=0
 case neg=>
  have ee:YP rc now=DE:=by rw[E3];unfold bF;rw[<-hDE,if_pos de]
  rw[UV (by rw[ee];exact de),ee,qv (by rw[<-hDE];exact de),<-hDE];have yz:=fin h7 [D t 0,D t 0,D t 0,D t 0,D t 0] rfl rfl z7;simp -implicitDefEqProofs only[go_sem,f0,f1,f4,f9,f7,f10,de,yz,Y4,GW]
  try exact (B7.Zt (R _) _).YU (by simp;omega) _
 have E4:YP rc now=ma PL X now:=by rw[E3];unfold bF;rw[<-hDE,if_neg (fun hn=>hn de)]
 rw[qu (by rw[<-hDE];exact de),<-hDE,de];have eA:Bt PL now=S7 ((PL.take 22).getD 0 0:Nat) ((PL.take 22).getD 1 0:Nat) (XB (PL.take 22) 2:Nat) (Xv (PL.drop 22) 0) (Xv (PL.drop 22) 1) (Xv (PL.drop 22) 2) (Xv (PL.drop 22) 3) (Xv (PL.drop 22) 4) now:=rfl;have eC:YP rc now=0->bJ rc now=[D t (Xv (PL.drop 22) 0),D t (Xv (PL.drop 22) 1),D t (Xv (PL.drop 22) 2),D t (Xv (PL.drop 22) 3),D t (Xv (PL.drop 22) 4)]:=fun e=>by rw[qw e,ePL]
 have e4:ma PL X now=if Xv (PL.drop 22) 0≠0/\Xv (PL.drop 22) 1≠(X:Nat) then 11 else Bt PL now:=rfl
 generalize Xv (PL.drop 22) 0=y0 at *;generalize Xv (PL.drop 22) 1=y1 at *;generalize Xv (PL.drop 22) 2=y2 at *;generalize Xv (PL.drop 22) 3=y3 at *;generalize Xv (PL.drop 22) 4=y4 at *;obtain⟨h8,hh8⟩:=ZQ (h7.push (K [D t y0,D t y1,D t y2,D t y3,D t y4].toArray 25):Hp);have e8:h7.push (K #[Value.int t y0,D t y1,D t y2,D t y3,D t y4] 25)=h8:=hh8.symm
 try simp -implicitDefEqProofs only[go_sem,f0,f1,f4,f9,f7,f10,de]
 rw[e8];have b8:Zk h7.size h7 h8:=by rw[hh8];exact Zk.push (R _) _
 have s8:h8.size=h7.size+1:=by rw[hh8];simp
 have c8:h8[h7.size]? = Q (K [D t y0,D t y1,D t y2,D t y3,D t y4].toArray 25):=by rw[hh8];exact Zc
 clear e8 hh8;have z8:=b8.get (by omega) z7;have t8:=b8.get (by omega) t7;have B8:=B7.trans (b8.mono B7.size);have k80:V.hc h8 ⟨h7.size,0,O⟩=Q (D t y0):=by rw[Zn c8];rfl
 have k81:V.hc h8 ⟨h7.size,1,O⟩=Q (D t y1):=by rw[Zn c8];rfl
 have rT8:rd h8 ⟨A,0,O⟩ 3=_:=Zy t8 rfl;have rC8:rd h8 ⟨h7.size,0,O⟩ 5=_:=Zy c8 rfl;have b18:Zk h1.size h1 h8:=(b2.trans ((b3.mono s2).trans ((b6.mono (by omega)).trans ((b7.mono (by omega)).trans (b8.mono (by omega))))))
 have x8:V.hc h8 ⟨bb,oo,O⟩=Q (D .u8 (X:Nat)):=by
  rw[b18.hc (by show bb<h1.size;omega),b1.hc (by exact Tm)];exact x0
 have yz8:=fin h8 [D t 0,D t 0,D t 0,D t 0,D t 0] rfl rfl z8;have yc8:=fin h8 [D t y0,D t y1,D t y2,D t y3,D t y4] rfl rfl z8;have hz8:=Za z8;refine VS.mono (N:=fun F' g'=>g'=h8/\F' 0=J (Q ⟨bb,oo,O⟩) (H rc) c/\F' 1=D t now/\F' 4=al (Q ⟨h.size,0,O⟩)/\F' 10=al (Q ⟨A,0,O⟩)/\F' 11=al (Q ⟨h7.size,0,O⟩)/\F' 78=am (decide (y0≠0/\y1≠(X:Nat)))) ?_ ?_ (fun _ _ _ h=>h) (fun _ _ h=>h)
 .refine VS.q mixed (by kernel_rfl) ?_;by_cases w0:y0=0
  .have hd:decide (y0≠0/\y1≠(X:Nat))=false:=decide_eq_false (fun hn=>hn.1 w0);rw[hd];simp -implicitDefEqProofs only[go_sem,f0,f1,f4,f9,f7,f10,k80,w0]
  .by_cases w1:y1=(X:Nat)
   .have hd:decide (y0≠0/\y1≠(X:Nat))=false:=decide_eq_false (fun hn=>hn.2 w1);rw[hd];simp -implicitDefEqProofs only[go_sem,f0,f1,f4,f9,f7,f10,k80,k81,x8,n0,w0,w1]
   .have hd:decide (y0≠0/\y1≠(X:Nat))=true:=decide_eq_true ⟨w0,w1⟩;rw[hd];simp -implicitDefEqProofs only[go_sem,f0,f1,f4,f9,f7,f10,k80,k81,x8,n0,w0,w1]
 rintro F' g8 ⟨EI,g0,g1,g4,gt,gc,gb⟩;rw[EI];clear EI;by_cases wr':y0≠0/\y1≠(X:Nat)
 case pos=>
  have ee:YP rc now=11:=by rw[E4,e4,if_pos wr']
  rw[decide_eq_true wr']at gb;rw[UV (by rw[ee];decide),ee];simp -implicitDefEqProofs only[go_sem,g4,gb,yz8,hz8]
  try exact B8.Zt (R _) _
 have E5:YP rc now=Bt PL now:=by rw[E4,e4,if_neg wr']
 rw[decide_eq_false wr']at gb;have hal:Zd a5 T 84 #[aa #[D t ((PL.take 22).getD 0 0:Nat),D t ((PL.take 22).getD 1 0:Nat),D t (XB (PL.take 22) 2:Nat)],aa #[D t y0,D t y1,D t y2,D t y3,D t y4],D t now] h8 fun v' h'=>v'=D t (Bt PL now)/\Zk h8.size h8 h':=by
  rw[eA];exact pZ T h8 _ _ _ y0 y1 y2 y3 y4 now (tn.Qx B8)
 simp -implicitDefEqProofs only[go_sem,g0,g1,g4,gt,gc,gb,rT8,rC8];refine hal.use ?_;rintro _ h9 ⟨rfl,b9⟩;have s9:=b9.size;have z9:=b9.get (by omega) z8;have c9:=b9.get (by omega) c8;have rC9:rd h9 ⟨h7.size,0,O⟩ 5=_:=Zy c9 rfl;have B9:=B8.trans (b9.mono B8.size);have yz9:=fin h9 [D t 0,D t 0,D t 0,D t 0,D t 0] rfl rfl z9;have yc9:=fin h9 [D t y0,D t y1,D t y2,D t y3,D t y4] rfl rfl z9;have hz9:=Za z9;generalize Bt PL now=OA at *;by_cases oa:OA=0
 .have ee:YP rc now=0:=by rw[E5,oa]
  rw[eC ee,ee];simp -implicitDefEqProofs only[go_sem,g4,gc,oa,rC9,yc9,hz9]
  try exact B9.Zt (R _) _
 .rw[UV (by rw[E5];exact oa),E5];simp -implicitDefEqProofs only[go_sem,g4,gc,oa,yz9,hz9]
  try exact B9.Zt (R _) _
end Go.Proofs.YthlfaofofaphfaaGreatDoor
