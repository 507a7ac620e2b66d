/- Part Opn. -/
import Derived.Test.YtdapjaalaomghaaGreatDoorPik
import Derived.Test.YtdapjaalaomghaaGreatDoorW21
import Derived.Test.YtdapjaalaomghaaGreatDoorChw
import Derived.Test.YtdapjaalaomghaaGreatDoorTape
import Derived.Test.YtdapjaalaomghaaGreatDoorVst
import Derived.Test.YtdapjaalaomghaaGreatDoorTakf
import Derived.Test.YtdapjaalaomghaaGreatDoorPak
import Derived.Test.YtdapjaalaomghaaGreatDoorTab
open Go.Value renaming int→D,slice→J,agg→aa,pointer→ab,bool→ae
open Go.IntKind renaming i64→t
open Go.Obj renaming cells→K
open Go.Proofs.Tryz renaming prog→aw,underlying26→a6,underlying102→ba
open List renaming length→H,length_append→U,append_assoc→al,length_drop→am,length_cons→ao,take_append_drop→aq,length_take→aU,length_nil→a7,drop_eq_getElem_cons→a8,getD_eq_getElem?_getD→bc,not_mem_nil→be,append_nil→bh,nil_append→bk,length_singleton→bl,mem_cons→bt,getElem_mem→bA,take_left'→bC,length_set→bR
open Nat renaming le_refl→R,zero_add→a5,add_zero→bf,zero_le→bo,reduceEqDiff→bw
open Int renaming toNat_natCast→S
open Option renaming none→O,some→Q
open Array renaming getElem?_push→W
open Go.Builtin renaming zeroCells→a9
open Go renaming Value→a4
namespace Go.Proofs.YtdapjaalaomghaaGreatDoor
open Go Go.V
set_option linter.all false
set_option maxRecDepth 100000
variable(T:World)
theorem DR(h:Hp)(x y:Vt):Zd aw T 122 #[aa (Zv x).toArray,aa (Zv y).toArray] h fun v' h'=>v'=D t (Nt x.Zt y.Zt)/\Zj h.size h h':=by
 refine Zd.XT [_,_] Tryz.func122 ?_;unfold Zv;simp -implicitDefEqProofs only[go_sem];refine (SI T _ _ _).pure ?_;simp -implicitDefEqProofs only[go_sem]
 (repeat' (first|exact Zj.refl _ _|assumption|refine Zj.add ?_ _|refine Zj.Zs ?_ aaa _|refine Zj.trans aab ?_))
def Found(l:List Vt)(s:Int)(i:Nat)(b:Bool):Prop:=(b=true/\∃hi:i<(H l),l[i].Zt=s)\/(b=false/\(∀j (hj:j<(H l)),j<i->l[j].Zt<s)/\∀j (hj:j<(H l)),i<=j->s<l[j].Zt)
theorem cD(a b:Int):Nt a b<0↔a<b:=by unfold Nt;split<;>(try split)<;>omega
theorem DS(a b:Int):Nt a b=0↔a=b:=by unfold Nt;split<;>(try split)<;>omega
theorem zd{x:Nat}:XA .u64 (x:Int) 1=((x/2:Nat):Int):=by
 rw[show (1:Int)=((1:Nat):Int) from rfl,OX .u64 x 1 Iw,Nat.shiftRight_eq_div_pow]
theorem jp(h:Hp)(u:a4)(l:List Vt)(v:Vt)(s:Ts Zv 8 h u l)(hs:Srt l)(hl:(H l)<=2199023255552):
  Zd aw T 121 #[u,aa (Zv v).toArray,.func (.func 122) #[] #[]] h fun v' h'=>(∃(i:Nat) (b:Bool),i<=(H l)/\v'=.tuple [D t i,ae b].toArray/\Found l v.Zt i b)/\Zj h.size h h':=by
 obtain⟨p,c,rfl,XI⟩:=WP s;refine Zd.XT [_,_,_] Tryz.func121 ?_;unfold Zv;simp -implicitDefEqProofs only[go_sem];refine VS.Yk (fun F g=>Zj h.size h g/\g[h.size]? = Q (K (Zv v).toArray 132)/\F 0=J p (H l) c/\F 2=.func (.func 122) #[] #[]/\F 4=ab (Q ⟨h.size,0,O⟩)/\F 8=D t (H l)/\∃i j:Nat,i<=j/\j<=(H l)/\F 9=D t i/\F 10=D t j/\(∀k (hk:k<(H l)),k<i->l[k].Zt<v.Zt)/\(∀k (hk:k<(H l)),j<=k->v.Zt<=l[k].Zt))
  (fun F _=>(vi (F 10)).toNat-(vi (F 9)).toNat) rfl ⟨(Zj.refl _ _).add _,Zc,rfl,rfl,rfl,rfl,0,(H l),nT,nT,rfl,rfl,fun k _ hk=>by omega,fun k hk NE=>by omega⟩ ?_
 rintro F g ⟨hg,hx,f0,f2,f4,f8,i,j,uc,hj,f9,f10,lo,hi⟩;have Oo:=hg.size;have hz:=Za hx;have rx:rd g ⟨h.size,0,O⟩ 8=Q (Zv v):=Zz hx rfl;unfold Zv at rx;by_cases ZS:i<j
 .have Z7:(i:Int)<j:=nT;have e1:(i:Int)+(j:Int)=((i+j:Nat):Int):=nT;have e2:((i+j:Nat):Int)%18446744073709551616=((i+j:Nat):Int):=nT;have e3:=zd (x:=i+j);obtain⟨m,hm⟩:=ZN ((i+j)/2);rw[<-hm]at e3;have fI:m<(H l):=nT;have Zuw:(m:Int)<(H l):=nT;obtain⟨bb,oo,rfl,T5,_,XI⟩:=XI (by intro e;rw[e]at fI;simp at fI);have rm:rd g ⟨bb,oo+m*8,O⟩ 8=Q (Zv l[m]):=by rw[Um hg (by exact T5)];exact XI m fI
  obtain⟨y,hy⟩:=ZN (l[m]);rw[<-hy]at rm;unfold Zv at rm;simp -implicitDefEqProofs only[go_sem,f9,f10,Z7,e1,e2,e3];refine VS.w (g.size) [] (.q 0 (.q 1 (.q 2 (.q 3 (.q 4 (.q 5 (.s 6 (.q 7 .nil)))))))) mixed uj ?_;have q1:bb<g.size:=nT;simp -implicitDefEqProofs only[go_sem,f0,f2,f4,Zuw,rm,rx,hz,q1];refine (DR T g y v).use ?_;rintro _ g1 ⟨rfl,b1⟩;have NO:=hg.trans (b1.mono Oo);have Wi:=b1.get hz hx;by_cases q:y.Zt<v.Zt
  .have q':=(cD _ _).2 q;simp -implicitDefEqProofs only[go_sem,q',f0,f2,f4,f8,f9,f10];refine⟨b1,⟨NO,Wi,f0,f2,f4,f8,m+1,j,nT,hj,rfl,f10,fun k hk hkm=>?_,hi⟩,?_⟩
   .by_cases e:k=m
    .subst e;rw[<-hy];exact q
    .have:=hs k m hk fI nT;rw[<-hy]at this;omega
   .simp only[vi,Zq,↓reduceIte,bw,f9,f10];omega
  .have q':¬Nt y.Zt v.Zt<0:=fun h=>q ((cD _ _).1 h);simp -implicitDefEqProofs only[go_sem,q',f0,f2,f4,f8,f9,f10];refine⟨b1,⟨NO,Wi,f0,f2,f4,f8,i,m,nT,nT,f9,rfl,lo,fun k hk hkm=>?_⟩,?_⟩
   .by_cases e:k=m
    .subst e;rw[<-hy];omega
    .have:=hs m k fI hk nT;rw[<-hy]at this;omega
   .simp only[vi,Zq,↓reduceIte,bw,f9,f10];omega
 .have Z7:¬(i:Int)<j:=nT;obtain rfl:i=j:=nT;by_cases fJ:i<(H l)
  .have ze:(i:Int)<(H l):=nT;obtain⟨bb,oo,rfl,T5,_,XI⟩:=XI (by intro e;rw[e]at fJ;simp at fJ);have rm:rd g ⟨bb,oo+i*8,O⟩ 8=Q (Zv l[i]):=by rw[Um hg (by exact T5)];exact XI i fJ
   have Xv:=hi i fJ (R _);obtain⟨y,hy⟩:=ZN (l[i]);rw[<-hy]at rm Xv;unfold Zv at rm;simp -implicitDefEqProofs only[go_sem,f9,f10,Z7];refine VS.w (g.size) [] (.q 0 (.q 1 (.q 2 (.q 3 (.q 4 (.q 5 (.q 6 (.q 7 (.q 8 (.q 9 (.q 10 (.s 11 (.q 12 (.q 13 (.q 14 (.q 15 .nil)))))))))))))))) mixed uj ?_;have q1:bb<g.size:=nT;simp -implicitDefEqProofs only[go_sem,f0,f2,f4,f8,f9,f10,ze,rm,rx,hz,q1];refine (DR T g y v).use ?_;rintro _ g1 ⟨rfl,b1⟩;have NO:=hg.trans (b1.mono Oo);by_cases q:y.Zt=v.Zt
   .have q':=(DS _ _).2 q;simp -implicitDefEqProofs only[go_sem,q'];exact⟨b1,⟨i,true,nT,rfl,.inl ⟨rfl,fJ,by rw[<-hy];exact q⟩⟩,NO⟩
   .have q':¬Nt y.Zt v.Zt=0:=fun h=>q ((DS _ _).1 h);simp -implicitDefEqProofs only[go_sem,q'];refine⟨b1,⟨i,false,nT,rfl,.inr ⟨rfl,fun k hk hkm=>lo k hk hkm,fun k hk hkm=>?_⟩⟩,NO⟩;by_cases e:k=i
    .subst e;rw[<-hy];omega
    .have:=hs i k fJ hk nT;rw[<-hy]at this;omega
  .have ze:¬(i:Int)<(H l):=nT;simp -implicitDefEqProofs only[go_sem,f9,f10,Z7];refine VS.w (g.size) [] (.q 0 (.q 1 (.q 2 (.q 3 (.q 4 (.q 5 (.q 6 (.q 7 (.q 8 (.q 9 (.q 10 (.s 11 (.q 12 (.q 13 (.q 14 (.q 15 .nil)))))))))))))))) mixed uj ?_;simp -implicitDefEqProofs only[go_sem,f0,f2,f4,f8,f9,f10,ze];exact⟨⟨i,false,nT,rfl,.inr ⟨rfl,fun k hk hkm=>lo k hk hkm,fun k hk hkm=>by omega⟩⟩,hg⟩
theorem JU(l:List Vt):(ZU Zv l).length=(H l)*8:=UV (n:=8) (fun _=>rfl) l
theorem cE(l:List Vt):(ZU Zv l).all YD=true:=by
 induction l with
 | nil=>rfl
 | cons x l ih=>rw[ZU,List.all_append,ih];rfl
theorem zeroV(k:Nat):(a9 (rep 8 [Value.int t 0]).toArray k).toList.length=k*8:=by rw[Array.length_toList,Xp];rfl
theorem qO(k:Nat):(a9 (rep 8 [Value.int t 0]).toArray k).toList.all YD=true:=by
 unfold a9;rw[List.all_eq_true];intro x hx;simp only[Array.toList_map,Array.toList_range,List.mem_map]at hx;obtain⟨j,_,rfl⟩:=hx;have:j%8<8:=Nat.mod_lt _ Iw;show YD ((rep 8 [Value.int t 0]).toArray[j%8]!)=true;rcases (by omega:j%8=0\/j%8=1\/j%8=2\/j%8=3\/j%8=4\/j%8=5\/j%8=6\/j%8=7) with e|e|e|e|e|e|e|e<;>rw[e]<;>rfl
theorem Fs:Extern.findNext Tryz.f136=O/\Extern.find Tryz.f136=Q (Extern.SlicesOverlaps.overlaps #[102,102] #[4]):=⟨uj,uj⟩
theorem qP(h:Hp)(B:Nat)(p:Option Addr)(cap i:Nat)(l:List Vt)(x:Vt)(bv:Nat)(Zm:Qv B 132 Zv 8 h (.slice p l.length cap) l)(hB:B<=h.size)(hi:i<=l.length)(hl:l.length<=1000000)(hx:h[bv]? = Q (.cells (Zv x).toArray 132))(Y4:cap≠0->∀b o,p=Q ⟨b,o,O⟩->b≠bv):
  Zd aw T 124 #[.slice p l.length cap,.int .i64 i,.slice (Q ⟨bv,0,O⟩) 1 1] h fun v' h'=>Qv B 132 Zv 8 h' v' (l.take i++x :: l.drop i)/\Zj B h h':=by
 refine Zd.XT [_,_,_] Tryz.func124 ?_;have hlc:l.length<=cap:=by
  obtain⟨_,_,e,h⟩:=Zm.open;simp only[Value.slice.injEq]at e;omega
 have n1:(0:Int)<=(i:Int):=by omega
 have n2:(i:Int)<=(l.length:Int):=by omega
 have sx:Ts Zv 8 h (.slice (Q ⟨bv,0,O⟩) 1 1) [x]:=⟨by
  have:=Te (pre:=[]) (cs:=Zv x) (post:=[]) (m:=1) (n:=8) (c:=1) (by rw[bh,bk];exact hx) rfl rfl
  simpa [ZU] using this⟩
 by_cases H5:i=l.length
 .subst H5;have k1:((1:Nat):Int)=1:=rfl;by_cases c0:cap=0
  .obtain rfl:l=[]:=List.eq_nil_of_length_eq_zero (by omega);subst c0;rw[a7]at Zm ⊢;have k0:((0:Nat):Int)=0:=rfl;simp -implicitDefEqProofs only[go_sem,k0,k1];refine Rb (E:=132) (B:=B) (n:=8) (bytes:=64) Oi ba Lh lV rfl lU (fun _=>rfl) Zm hB sx (by simp only[bl,a7];omega) (by omega) ?_;intro v' h' ho hb _;simp -implicitDefEqProofs only[go_sem];exact⟨ho,hb⟩
  .obtain⟨b,ZG,HM,rfl,hg,_,NB,_⟩:=Zm.Zm.ZG c0;have hz:(l.length:Int)<=(l.length:Int):=Int.le_refl _;simp -implicitDefEqProofs only[go_sem,n1,n2,k1,S];refine Rb (E:=132) (B:=B) (n:=8) (bytes:=64) Oi ba Lh lV rfl lU (fun _=>rfl) Zm hB sx (by simp only[bl];omega) (by omega) ?_;intro v' h' ho hb _;simp -implicitDefEqProofs only[go_sem];rw[List.take_length,List.drop_length];exact⟨ho,hb⟩
 have fJ:i<l.length:=by omega
 have HN:¬(i:Int)=(l.length:Int):=by omega
 have c0:cap≠0:=by omega
 obtain⟨b,ZG,HM,rfl,hg,_,NB,_⟩:=Zm.Zm.ZG c0;have hbv:b≠bv:=Y4 c0 b 0 rfl;have et:l=l.take i++(l[i] :: l.drop (i+1)):=by
  conv=>lhs;rw[<-aq i l,a8 fJ]
 have ed:ZU Zv (l.drop i)=Zv l[i]++ZU Zv (l.drop (i+1)):=by
  rw[a8 fJ];rfl
 have ee:ZU Zv l=ZU Zv (l.take i)++ZU Zv (l.drop i):=by rw[<-Y6,aq]
 have lt:(ZU Zv (l.take i)).length=i*8:=by rw[JU,aU];congr 1;omega
 have ld:(ZU Zv (l.drop i)).length=(l.length-i)*8:=by rw[JU,am]
 have Zdo:ZU Zv (l.take i++x :: l.drop i)=ZU Zv (l.take i)++(Zv x++ZU Zv (l.drop i)):=by rw[Y6];rfl
 have Zdp:(l.take i++x :: l.drop i).length=l.length+1:=by rw[U,aU,ao,am];omega
 have c1:¬cap=i:=by omega
 have m1:(l.length:Int)+1=((l.length+1:Nat):Int):=by omega
 have m2:((l.length+1:Nat):Int)-(i:Int)=((l.length+1-i:Nat):Int):=by omega
 have m3:(i:Int)+1=((i+1:Nat):Int):=by omega
 have k1:((1:Nat):Int)=1:=rfl;by_cases Vk:cap<l.length+1
 .have cF:(cap:Int)<((l.length+1:Nat):Int):=by omega
  have n3:(i:Int)<=(cap:Int):=by omega
  simp -implicitDefEqProofs only[go_sem,n1,n2,n3,k1,HN,m1,cF,m2,S];have Zux:UK B 132 8 h (.slice (Q ⟨b,0,O⟩) i cap) i (ZU Zv (l.take i)):=by
   have:=Zm.Zm.Md hi;rw[ee,bC lt]at this;exact this
  refine C7 (E:=132) (B:=B) (n:=8) (m:=i) (k:=l.length+1-i) (bytes:=64) (zs:=rep 8 [Value.int .i64 0]) Oi Tryz.underlying3 Lh lV rfl (by decide) lU Zux hB (qO _) (by omega) (by omega) ?_;intro w g ow _ jq;obtain⟨DQ,c2,rfl⟩:=jq _ _ rfl (by omega);obtain⟨Z,hZ⟩:=ZN ((a9 (rep 8 [Value.int .i64 0]).toArray (l.length+1-i)).toList);have lZ:=zeroV (l.length+1-i);rw[<-hZ]at ow lZ;have ec:i+(l.length+1-i)=l.length+1:=by omega
  rw[ec]at ow ⊢;rcases ow with⟨_,h0,_⟩|⟨b2,Zun,sp2,_,bP,WB,_,hs2,Es⟩
  .omega
  simp only[Value.slice.injEq,Option.some.injEq,Addr.mk.injEq,true_and,and_true]at bP;obtain⟨rfl,rfl⟩:=bP;have d1:¬c2=i:=by omega
  have d2:(i:Int)<=((l.length+1:Nat):Int):=by omega
  have hbl:=Za hg;have zf:=Za hx;have mE:g[b]? = _:=DQ.get hbl hg;have hgv:g[bv]? = _:=DQ.get zf hx;have sx1:Sl 8 g (.slice (Q ⟨bv,0,O⟩) 1 1) 1 (Zv x):=Te (pre:=[]) (post:=[]) (by rw[bh,bk];exact hgv) rfl rfl;have zh:min 1 (l.length+1-i)=1:=by omega
  have eZ:ZU Zv (l.take i)++Z++sp2=ZU Zv (l.take i)++(Z.take 8++(Z.drop 8++sp2)):=by rw[al,<-al (Z.take 8),aq]
  have lz8:(Z.take 8).length=8:=by rw[aU];omega
  have ldz:(Z.drop 8).length=(l.length-i)*8:=by rw[am];omega
  have ec1:Y8 (ZU Zv (l.take i)++Z++sp2) (i*8) ((Zv x).take (1*8))=(ZU Zv (l.take i)++Zv x)++(Z.drop 8++sp2):=by
   rw[show (Zv x).take (1*8)=Zv x from rfl,eZ,Sf lt.symm (by rw[lz8];rfl),al]
  simp -implicitDefEqProofs only[go_sem,n1,d1,d2,S,a5];refine Kn (E:=132) (n:=8) Oi Lh WB sx1 rfl ?_ ?_
  .rw[zh,U,U,lt,lZ];omega
  rw[zh,ec1];obtain⟨g2,Ft⟩:=ZN (g.setIfInBounds h.size (.cells ((ZU Zv (l.take i)++Zv x)++(Z.drop 8++sp2)).toArray 132):Hp);rw[<-Ft];have g2n:g2[h.size]? = Q (.cells ((ZU Zv (l.take i)++Zv x)++(Z.drop 8++sp2)).toArray 132):=by rw[Ft];exact ZQ WB
  have g2b:g2[b]? = Q (.cells (ZU Zv (l.take i)++(ZU Zv (l.drop i)++ZG)).toArray 132):=by rw[Ft,Y7 (by omega),mE,ee,al]
  have bg2:Zj h.size h g2:=by rw[Ft];exact DQ.Zs (R _) _
  clear Ft;have m4:(i:Int)+1=((i+1:Nat):Int):=by omega
  have d3:¬c2=i+1:=by omega
  have d4:((i+1:Nat):Int)<=((l.length+1:Nat):Int):=by omega
  have d5:(0:Int)<=((i+1:Nat):Int):=by omega
  simp -implicitDefEqProofs only[go_sem];refine VS.w (h.size) [8] (.q 0 (.q 1 (.q 2 (.q 3 (.q 4 (.q 5 (.q 6 (.q 7 (.w 8 .nil))))))))) mixed (by kernel_rfl) ?_;simp -implicitDefEqProofs only[go_sem,n1,n2,m4,k1,d3,d4,d5,c1,S,a5];have ss:Sl 8 g2 (.slice (Q ⟨b,i*8,O⟩) (l.length-i) (cap-i)) (l.length-i) (ZU Zv (l.drop i)):=Te g2b ld lt.symm;have min2:min (l.length-i) (l.length+1-(i+1))=l.length-i:=by omega
  have etk:(ZU Zv (l.drop i)).take ((l.length-i)*8)=ZU Zv (l.drop i):=List.take_of_length_le (by omega);have ec2:Y8 ((ZU Zv (l.take i)++Zv x)++(Z.drop 8++sp2)) ((i+1)*8) ((ZU Zv (l.drop i)).take ((l.length-i)*8))=ZU Zv (l.take i++x :: l.drop i)++sp2:=by
   rw[etk,Sf (by rw[U,lt];show (i+1)*8=i*8+8;omega) (by rw[ld,ldz]),Zdo];simp only[al]
  refine Kn (E:=132) (n:=8) Oi Lh g2n ss (cE _) ?_ ?_
  .rw[min2,U,U,U,lt,ldz];show _<=i*8+8+_;omega
  rw[min2,ec2];simp -implicitDefEqProofs only[go_sem];refine⟨⟨?_⟩,(bg2.Zs (R _) _).mono hB⟩;rw[Zdp];exact UK.ic hB (ZQ g2n) (by rw[JU,Zdp]) hs2 Es
 .have cF:¬(cap:Int)<((l.length+1:Nat):Int):=by omega
  have Zmn:((l.length+1:Nat):Int)<=(cap:Int):=by omega
  have n4:(0:Int)<=((l.length+1:Nat):Int):=by omega
  have m4:(i:Int)+1=((i+1:Nat):Int):=by omega
  have d4:((i+1:Nat):Int)<=((l.length+1:Nat):Int):=by omega
  have d5:(0:Int)<=((i+1:Nat):Int):=by omega
  have d3:¬cap=i+1:=by omega
  simp -implicitDefEqProofs only[go_sem,n1,n2,n4,k1,c1,HN,m1,cF,Zmn,m4,d3,d4,d5,S,a5];have gB:h[b]? = Q (.cells (ZU Zv l++ZG).toArray 132 (0,0)):=hg;have gA:h[bv]? = Q (.cells (Zv x).toArray 132 (0,0)):=hx;have lsp:8<=ZG.length:=by
   rw[NB];have:=Nat.mul_le_mul_right 8 (show 1<=cap-l.length by omega);omega
  refine C8 Tryz.func136 (by decide) rfl Fs.1 Fs.2 ?_;refine C6 (size:=8) ba Lh (fun e=>hbv e.symm) gA gB (by intro e;have:=congrArg H e;rw[U,a7]at this;omega) ?_;simp -implicitDefEqProofs only[go_sem];refine VS.w (B) [8] (.q 0 (.q 1 (.q 2 (.q 3 (.q 4 (.q 5 (.q 6 (.q 7 (.w 8 .nil))))))))) mixed (by kernel_rfl) ?_;simp -implicitDefEqProofs only[go_sem,n1,n2,m4,k1,d3,d4,d5,c1,S,a5];have ss:Sl 8 h (.slice (Q ⟨b,i*8,O⟩) (l.length+1-i) (cap-i)) (l.length+1-i) (ZU Zv (l.drop i)++ZG.take 8):=Te (post:=ZG.drop 8) (by rw[hg,ee,al,al,aq]) (by rw[U,ld,aU];omega) lt.symm;have min2:min (l.length+1-i) (l.length+1-(i+1))=l.length-i:=by omega
  have etk:(ZU Zv (l.drop i)++ZG.take 8).take ((l.length-i)*8)=ZU Zv (l.drop i):=bC ld;have ld1:(ZU Zv (l.drop (i+1))).length=(l.length-(i+1))*8:=by rw[JU,am]
  have ecc:ZU Zv l++ZG=(ZU Zv (l.take i)++Zv l[i])++((ZU Zv (l.drop (i+1))++ZG.take 8)++ZG.drop 8):=by
   rw[ee,ed];simp only[al,aq]
  have ec1:Y8 (ZU Zv l++ZG) ((i+1)*8) (ZU Zv (l.drop i))=ZU Zv (l.take i)++(Zv l[i]++(ZU Zv (l.drop i)++ZG.drop 8)):=by
   rw[ecc,Sf (by rw[U,lt];show (i+1)*8=i*8+8;omega) (by rw[ld,U,ld1,aU];omega),al]
  refine pI (E:=132) (n:=8) Oi Lh gB ss (by rw[min2,etk];exact cE _) ?_ ?_
  .rw[min2,U,JU];omega
  rw[min2,etk,ec1];obtain⟨g2,Ft⟩:=ZN (h.setIfInBounds b (.cells (ZU Zv (l.take i)++(Zv l[i]++(ZU Zv (l.drop i)++ZG.drop 8))).toArray 132):Hp);rw[<-Ft];have g2n:g2[b]? = Q (.cells (ZU Zv (l.take i)++(Zv l[i]++(ZU Zv (l.drop i)++ZG.drop 8))).toArray 132):=by rw[Ft];exact ZQ hg
  have g2v:g2[bv]? = Q (.cells (Zv x).toArray 132):=by rw[Ft,Y7 hbv];exact hx
  have bg2:Zj B h g2:=by rw[Ft];exact Zj.set HM _
  clear Ft;have sx1:Sl 8 g2 (.slice (Q ⟨bv,0,O⟩) 1 1) 1 (Zv x):=Te (pre:=[]) (post:=[]) (by rw[bh,bk];exact g2v) rfl rfl;have zh:min 1 (l.length+1-i)=1:=by omega
  have ec2:Y8 (ZU Zv (l.take i)++(Zv l[i]++(ZU Zv (l.drop i)++ZG.drop 8))) (i*8) ((Zv x).take (1*8))=ZU Zv (l.take i++x :: l.drop i)++ZG.drop 8:=by
   rw[show (Zv x).take (1*8)=Zv x from rfl,Sf lt.symm (show (Zv x).length=(Zv l[i]).length from rfl),Zdo];simp only[al]
  simp -implicitDefEqProofs only[go_sem,n1,n2,m4,k1,d3,d4,d5,c1,S,a5];refine Kn (E:=132) (n:=8) Oi Lh g2n sx1 rfl ?_ ?_
  .rw[zh,U,U,lt];show i*8+1*8<=i*8+(8+_);omega
  rw[zh,ec2];simp -implicitDefEqProofs only[go_sem];refine⟨⟨?_⟩,bg2.trans (Zj.set HM _)⟩;rw[Zdp];exact UK.ic HM (ZQ g2n) (by rw[JU,Zdp]) (by rw[am,NB];omega) (by omega)
theorem Zdq{l:List Vt}(hs:Srt l)(hm:∀x∈l,Yo x):∀i (hi:i<(H l)),(i:Int)<=l[i].Zt:=by
 intro i
 induction i with
 | zero=>intro hi;have:=(hm _ (bA hi)).1.1;omega
 | succ i ih=>
  intro hi;have h1:=ih nT;have h2:=hs i (i+1) nT hi nT;omega
theorem Zdr{l:List Vt}(hs:Srt l)(hm:∀x∈l,Yo x):(H l)<=40:=by
 by_cases h:(H l)<=40
 .exact h
 .have h1:=Zdq hs hm 40 nT;have h2:=(hm _ (bA (show 40<(H l) by omega))).1.2;omega
def Xi(p:Yn)(l:List Vt)(x:Vt):Int:=if Jz p l≠0 then 5 else if ¬Yo x then 2 else if ZE x.b p then 7 else 0
def mJ(B:Nat)(h':Hp)(v':a4)(p:Yn)(l:List Vt)(x:Vt):Prop:=∃w,v'=.tuple [aa (Xy (if Xi p l x=0 then x.b else ⟨0,0⟩) w).toArray,D t (Xi p l x)].toArray /\
 Qv B 132 Zv 8 h' w (if Xi p l x=0 then JA l x else [])
theorem KK(h:Hp)(p:Yn)(u:a4)(l:List Vt)(x:Vt)(s:Ts Zv 8 h u l)(hl:(H l)<=2199023255552):
  Zd aw T 95 #[aa (Xy p u).toArray,aa (Zv x).toArray] h fun v' h'=>mJ h.size h' v' p l x/\Zj h.size h h':=by
 obtain⟨pu,cu,rfl,_⟩:=WP s;refine Zd.Ld [_,_] Tryz.func95 ?_;unfold Xy Zv;simp -implicitDefEqProofs only[go_sem];obtain⟨h0,Ql⟩:=ZN (((h.push (K (Xy p (J pu (H l) cu)).toArray 104)).push (K (Zv x).toArray 132)).push (K [D t 0,D t 0,J O 0 0].toArray 104):Hp);have b0:Zj h.size h h0:=by rw[Ql];exact (((Zj.refl _ _).add _).add _).add _
 have s0:h0.size=h.size+3:=by rw[Ql];simp
 have x0:h0[h.size]? = Q (K (Xy p (J pu (H l) cu)).toArray 104):=by
  rw[Ql,W,if_neg Ig,W,if_neg uK,Zc]
 have y0:h0[h.size+1]? = Q (K (Zv x).toArray 132):=by
  rw[Ql,W,if_neg uK,W,if_pos uK]
 have z0:h0[h.size+2]? = Q (K [D t 0,D t 0,J O 0 0].toArray 104):=by
  rw[Ql,W,if_pos uK]
 have e0:((h.push (K #[Value.int t p.r,D t p.n,J pu (H l) cu] 104)).push (K #[Value.int t x.Zt,D t x.b.r,D t x.b.n,D t x.k,D t x.c,D t x.s,D t x.nm,D t x.v] 132)).push (K #[Value.int t 0,D t 0,J O 0 0] 104)=h0:=Ql.symm;rw[e0];clear e0 Ql;refine (NN T h0 p _ l (s.Yz b0) nT).use ?_;rintro _ h1 ⟨rfl,b1⟩;have s1:=b1.size;have B1:Zj h.size h h1:=b0.trans (b1.mono nT);have x1:=b1.get nT x0;have y1:=b1.get nT y0;have z1:=b1.get nT z0;have fin:∀(G:Hp) (w:List a4),(H w)=3->w.all YD=true->G[h.size+2]? = Q (K [D t 0,D t 0,J O 0 0].toArray 104)->wr G ⟨h.size+1+1,0,O⟩ w=Q (G.setIfInBounds (h.size+1+1) (K w.toArray 104)):=by
  intro G w h3 h1 hx;rw[Yd (b:=h.size+1+1) hx 0 w,Z4 (by rw[h3];rfl),if_pos ⟨by rw[h3];simp,h1⟩]
 have zi:h.size+2<h1.size:=nT;unfold mJ;rcases IC p l with e0|e0
 case inr=>
  have e:Xi p l x=5:=by unfold Xi;rw[if_pos (by rw[e0];decide)]
  have w2:=fin h1 [D t 0,D t 0,J O 0 0] rfl rfl z1;simp -implicitDefEqProofs only[go_sem,e0,e,w2,zi];exact⟨⟨_,rfl,Qv.nil _ _ _ _ _⟩,B1.Zs nT _⟩
 have r1:rd h1 ⟨h.size+1,0,O⟩ 8=Q (Zv x):=Zz y1 rfl;unfold Zv at r1;simp -implicitDefEqProofs only[go_sem,e0,r1];refine (HS T h1 x).use ?_;rintro _ h2 ⟨rfl,b2⟩;have s2:=b2.size;have B2:=B1.trans (b2.mono nT);have x2:=b2.get nT x1;have y2:=b2.get nT y1;have z2:=b2.get nT z1;have Hl:h.size+2<h2.size:=nT;by_cases q1:Yo x
 case neg=>
  have e:Xi p l x=2:=by unfold Xi;rw[if_neg (by rw[e0];decide),if_pos q1]
  have w2:=fin h2 [D t 0,D t 0,J O 0 0] rfl rfl z2;simp -implicitDefEqProofs only[go_sem,q1,e,w2,Hl];exact⟨⟨_,rfl,Qv.nil _ _ _ _ _⟩,B2.Zs nT _⟩
 have rb:rd h2 ⟨h.size+1,1,O⟩ 2=Q [D t x.b.r,D t x.b.n]:=by rw[YJ y2 (by simp[Zv])];rfl
 have rp:rd h2 ⟨h.size,0,O⟩ 2=Q [D t p.r,D t p.n]:=by rw[YJ x2 (by simp[Xy])];rfl
 simp -implicitDefEqProofs only[go_sem,q1,rb,rp];refine (Tx T h2 x.b p).use ?_;rintro _ h3 ⟨rfl,b3⟩;have s3:=b3.size;have B3:=B2.trans (b3.mono nT);have x3:=b3.get nT x2;have y3:=b3.get nT y2;have z3:=b3.get nT z2;have pU:h.size+2<h3.size:=nT;by_cases q2:ZE x.b p
 case pos=>
  have e:Xi p l x=7:=by unfold Xi;rw[if_neg (by rw[e0];decide),if_neg (fun h=>h q1),if_pos q2]
  have w2:=fin h3 [D t 0,D t 0,J O 0 0] rfl rfl z3;have c2':Ku x.b p<0:=(Lr x.b p).2 q2;simp -implicitDefEqProofs only[go_sem,c2',e,w2,pU];exact⟨⟨_,rfl,Qv.nil _ _ _ _ _⟩,B3.Zs nT _⟩
 have e:Xi p l x=0:=by unfold Xi;rw[if_neg (by rw[e0];decide),if_neg (fun h=>h q1),if_neg q2]
 have c2':¬Ku x.b p<0:=fun h=>q2 ((Lr x.b p).1 h);have srt:=G6 e0;have few:=Zdr srt (iM e0);have rv:hc h3 ⟨h.size,2,O⟩=Q (J pu (H l) cu):=by rw[Zl x3];rfl
 simp -implicitDefEqProofs only[go_sem,c2',rv];refine (SK T h3 _ l (s.Yz B3) hl).use ?_;rintro w4 h4 ⟨o4,b4⟩;have s4:=b4.size;have B4:=B3.trans (b4.mono nT);have y4:=b4.get nT y3;have z4:=b4.get nT z3;have r4:rd h4 ⟨h.size+1,0,O⟩ 8=Q (Zv x):=Zz y4 rfl;unfold Zv at r4;simp -implicitDefEqProofs only[go_sem,r4];refine (jp T h4 w4 l x o4.ts srt hl).use ?_;rintro _ h5 ⟨⟨i,b,hi,rfl,hf⟩,b5⟩;have s5:=b5.size;have B5:=B4.trans (b5.mono nT);have y5:=b5.get nT y4;have z5:=b5.get nT z4;have o5:=o4.Yz b5 (R _);have r5:rd h5 ⟨h.size+1,0,O⟩ 8=Q (Zv x):=Zz y5 rfl;unfold Zv at r5;have n1:(0:Int)<=(i:Int):=nT;obtain⟨p4,c4,rfl,hc4⟩:=o4.open;rcases hf with⟨rfl,fJ,heq⟩|⟨rfl,hlo,hhi⟩
 .have ze:(i:Int)<((H l):Int):=nT;have c0:c4≠0:=nT;obtain⟨b,ZG,HM,rfl,hg,_,NB,_⟩:=o5.Zm.ZG c0;have et:l=l.take i++(l[i] :: l.drop (i+1)):=by
   conv=>lhs;rw[<-aq i l,a8 fJ]
  have es:l.set i x=l.take i++(x :: l.drop (i+1)):=by rw[List.set_eq_take_append_cons_drop,if_pos fJ]
  have ee:ZU Zv l=ZU Zv (l.take i)++(Zv l[i]++ZU Zv (l.drop (i+1))):=by
   have:=congrArg (ZU Zv) et;rw[Y6]at this;exact this
  have ZuC:ZU Zv (l.set i x)=ZU Zv (l.take i)++(Zv x++ZU Zv (l.drop (i+1))):=by
   have:=congrArg (ZU Zv) es;rw[Y6]at this;exact this
  have lt:(ZU Zv (l.take i)).length=i*8:=by rw[JU,aU];congr 1;omega
  have hw:wr h5 ⟨b,i*8,O⟩ (Zv x)=Q (h5.setIfInBounds b (K (ZU Zv (l.set i x)++ZG).toArray 132)):=by
   have ll:=JU l;have hmul:i*8+8<=(H l)*8:=nT;rw[Yd hg,if_pos ⟨by rw[U,ll];show i*8+8<=_;omega,rfl⟩,ee,al,al,Sf lt.symm (show (Zv x).length=(Zv l[i]).length from rfl),ZuC,al,al]
  have hbz:b<h5.size:=Za hg;have bQ:¬h.size+1=b:=nT;have Zhw:¬h.size+2=b:=nT;have rb5:rd h5 ⟨h.size+1,1,O⟩ 2=Q [D t x.b.r,D t x.b.n]:=by rw[YJ y5 (by simp[Zv])];rfl
  obtain⟨h6,zj⟩:=ZN (h5.setIfInBounds b (K (ZU Zv (l.set i x)++ZG).toArray 132):Hp);rw[<-zj]at hw;unfold Zv at hw;have y6:h6[h.size+1]? = Q (K (Zv x).toArray 132):=by rw[zj,Y7 nT];exact y5
  have z6:h6[h.size+2]? = Q (K [D t 0,D t 0,J O 0 0].toArray 104):=by rw[zj,Y7 nT];exact z5
  have B6:Zj h.size h h6:=by rw[zj];exact B5.Zs nT _
  have o6:Qv (h.size+3) 132 Zv 8 h6 (J (Q ⟨b,0,O⟩) (H l) c4) (l.set i x):=by
   refine⟨?_⟩;rw[bR];exact UK.ic nT (by rw[zj];exact ZQ hg) (by rw[JU,bR]) NB hc4
  have rb6:rd h6 ⟨h.size+1,1,O⟩ 2=Q [D t x.b.r,D t x.b.n]:=by rw[YJ y6 (by simp[Zv])];rfl
  have w6:=fin h6 [D t x.b.r,D t x.b.n,J (Q ⟨b,0,O⟩) (H l) c4] rfl rfl z6;have ZuD:h.size+2<h6.size:=Za z6;simp -implicitDefEqProofs only[go_sem,n1,ze,r5,S,a5,hw,rb6,w6,ZuD,e];refine⟨⟨_,rfl,?_⟩,B6.Zs nT _⟩;rw[yc srt fJ heq];exact (o6.Z9 nT _).mono nT
 .have hn:JA l x=l.take i++x :: l.drop i:=yd srt hi hlo hhi;simp -implicitDefEqProofs only[go_sem,r5];obtain⟨h6,zj⟩:=ZN (h5.push (K (Zv x).toArray 132):Hp);have e6:h5.push (K #[Value.int t x.Zt,D t x.b.r,D t x.b.n,D t x.k,D t x.c,D t x.s,D t x.nm,D t x.v] 132)=h6:=zj.symm;rw[e6];have b6:Zj h5.size h5 h6:=by rw[zj];exact Zj.push (R _) _
  have s6:h6.size=h5.size+1:=by rw[zj];simp
  have v6:h6[h5.size]? = Q (K (Zv x).toArray 132):=by rw[zj];exact Zc
  clear e6 zj;have B6:=B5.trans (b6.mono nT);have o6:=(o5.Yz b6 (R _)).mono (B':=h.size+3) nT;have Y4:c4≠0->∀b o,p4=Q ⟨b,o,O⟩->b≠h5.size:=by
   intro c0 b o hp;subst hp;obtain⟨b',_,_,J9,Eu,_⟩:=o5.Zm.ZG c0;simp only[Option.some.injEq,Addr.mk.injEq]at J9;have:=Za Eu;omega
  refine (qP T h6 (h.size+3) p4 c4 i l x h5.size o6 nT hi nT v6 Y4).use ?_;rintro w7 h7 ⟨o7,b7⟩;obtain⟨p7,c7,rfl,_⟩:=o7.open;have s7:=b7.size;have B7:=B6.trans (b7.mono nT);have y7:=b7.get nT (b6.get nT y5);have z7:=b7.get nT (b6.get nT z5);have rb7:rd h7 ⟨h.size+1,1,O⟩ 2=Q [D t x.b.r,D t x.b.n]:=by rw[YJ y7 (by simp[Zv])];rfl
  obtain⟨L,hL⟩:=ZN (l.take i++x :: l.drop i);rw[<-hL]at o7 hn ⊢;have w7:=fin h7 [D t x.b.r,D t x.b.n,J p7 (H L) c7] rfl rfl z7;have Fi:h.size+2<h7.size:=Za z7;simp -implicitDefEqProofs only[go_sem,rb7,w7,Fi,e];refine⟨⟨_,rfl,?_⟩,B7.Zs nT _⟩;rw[hn];exact (o7.Z9 nT _).mono nT
def QW(l:List Nat)(n:Int)(x:Vt):Int:=if ¬YX l n then 5 else if ¬Yo x then 2 else Qs l n 33
def Uq(x:Vt):List Nat:=2 :: (ZB [x.Zt.toNat,x.b.r.toNat,x.b.n.toNat]++ZB [x.k.toNat,x.c.toNat,x.s.toNat,x.nm.toNat,x.v.toNat])
theorem jr(x:Vt):Xi ⟨0,0⟩ [] x=if Yo x then 0 else 2:=by
 have e:Jz ⟨0,0⟩ []=0:=rfl;unfold Xi;rw[if_neg (by rw[e];decide)];by_cases q:Yo x
 .rw[if_neg (fun hn=>hn q),if_pos q,if_neg];intro hb;have q1:=q.2.1.1.1;rcases hb with hb|⟨hb,_⟩<;>simp at hb<;>omega
 .rw[if_pos q,if_neg q]
theorem zk(h:Hp)(v:a4)(n:Int)(l:List Nat)(x:Vt)(s:Bs h v l)(hl:(H l)<=140737488355328)(tk:Tk h):
  Zd aw T 111 #[aa [v,D t n].toArray,aa (Zv x).toArray] h fun v' h'=>R7 h.size h' v' l n (QW l n x) (YR (Uq x))/\Zj h.size h h':=by
 obtain⟨p,c,rfl,_⟩:=s.open;refine Zd.XT [_,_] Tryz.func111 ?_;unfold R7 Zv;simp -implicitDefEqProofs only[go_sem];obtain⟨h0,Ql⟩:=ZN (((h.push (K [J p (H l) c,D t n].toArray 99)).push (K (Zv x).toArray 132)).push (K [J O 0 0,D t 0].toArray 99):Hp);have b0:Zj h.size h h0:=by rw[Ql];exact (((Zj.refl _ _).add _).add _).add _
 have s0:h0.size=h.size+3:=by rw[Ql];simp
 have t0:h0[h.size]? = Q (K [J p (H l) c,D t n].toArray 99):=by
  rw[Ql,W,if_neg Ig,W,if_neg uK,Zc]
 have t1:h0[h.size+1]? = Q (K (Zv x).toArray 132):=by
  rw[Ql,W,if_neg uK,W,if_pos uK]
 have x0:h0[h.size+2]? = Q (K [J O 0 0,D t 0].toArray 99):=by
  rw[Ql,W,if_pos uK]
 have e0:((h.push (K #[Value.slice p (H l) c,D t n] 99)).push (K #[Value.int t x.Zt,D t x.b.r,D t x.b.n,D t x.k,D t x.c,D t x.s,D t x.nm,D t x.v] 132)).push (K #[Value.slice O 0 0,D t 0] 99)=h0:=Ql.symm;rw[e0];clear e0 Ql;refine (UX T h0 _ n l (s.Yz b0) hl).use ?_;rintro _ h1 ⟨b1,o1⟩;have s1:=b1.size;have B1:Zj h.size h h1:=b0.trans (b1.mono nT);have x1:=b1.get nT x0;by_cases ok:YX l n
 case neg=>
  have ee:QW l n x=5:=by unfold QW;rw[if_pos ok]
  rw[if_neg (show ¬((H l)<=100000/\0<=n/\n<=(H l)) from ok)]at o1;subst o1;rw[ee];have y2:=Yd x1 0;have ZS:h.size+2<h1.size:=nT;have Y4:¬h.size+2=h1.size:=nT;simp -implicitDefEqProofs only[go_sem,y2,Y4,ZS];exact⟨⟨_,rfl,Yx.nil _ _ _⟩,(B1.Zs nT _).YU Ig _⟩
 rw[if_pos (show ((H l)<=100000/\0<=n/\n<=(H l)) from ok)]at o1;obtain⟨w,rfl,o1⟩:=o1;obtain⟨pw,cw,rfl,_⟩:=o1.open;have bt1:=b1.get nT t1;have r1:rd h1 ⟨h.size+1,0,O⟩ 8=Q (Zv x):=Zz bt1 rfl;unfold Zv at r1;have bQ:¬h.size+1=h1.size:=nT;simp -implicitDefEqProofs only[go_sem,r1,bQ];have b2:Zj h1.size h1 (h1.push (K [J pw (H l) cw,D t n].toArray 99)):=Zj.push (R _) _;refine (KK T _ ⟨0,0⟩ (J O 0 0) [] x (Qv.nil 0 132 Zv 8 _).ts uK).use ?_;rintro _ h3 ⟨⟨w1,rfl,q1⟩,b3⟩;have B3:Zj h1.size h1 h3:=b2.trans (b3.mono b2.size);rw[jr]at q1 ⊢;obtain⟨p1,c1,Bq,_⟩:=q1.open;have s3:=B3.size;have x3:=B3.get nT x1;have fG:=B1.trans (B3.mono nT);by_cases may:Yo x
 case neg=>
  have ee:QW l n x=2:=by unfold QW;rw[if_neg (fun hn=>hn ok),if_pos may]
  rw[if_neg may]at Bq;rw[ee,if_neg may];subst Bq;have y2:=Yd x3 0;have ZS:h.size+2<h3.size:=nT;have Y4:¬h.size+2=h3.size:=nT;unfold Xy;simp -implicitDefEqProofs only[go_sem,y2,Y4,ZS];exact⟨⟨_,rfl,Yx.nil _ _ _⟩,(fG.Zs nT _).YU Ig _⟩
 have ee:QW l n x=Qs l n 33:=by unfold QW;rw[if_neg (fun hn=>hn ok),if_neg (fun hn=>hn may)]
 rw[if_pos may]at Bq;rw[ee,if_pos may];obtain⟨⟨m1,m2⟩,⟨⟨m3,m4⟩,m5,m6⟩,mc⟩:=may;obtain⟨xs,⟨br,bn⟩,xk,xc,xss,xn,xv⟩:=x;simp only at m1 m2 m3 m4 m5 m6 mc;obtain⟨k,c2,s2,nm,vv,rfl,rfl,rfl,rfl,rfl,_⟩:=Ix mc;obtain⟨sl,rfl⟩:∃r:Nat,xs=r:=⟨xs.toNat,nT⟩
 obtain⟨r,rfl⟩:∃r:Nat,br=r:=⟨br.toNat,nT⟩
 obtain⟨m,rfl⟩:∃m:Nat,bn=m:=⟨bn.toNat,nT⟩
 unfold Uq;rw[if_pos rfl]at Bq;subst Bq;unfold Xy;have t3:=B3.get nT (b1.get nT t0);have t13:=B3.get nT bt1;have rc:rd h3 ⟨h.size+1,3,O⟩ 5=Q (Uy k c2 s2 nm vv):=by rw[YJ t13 (by simp[Zv])];rfl
 unfold Uy at rc;have ZuE:¬h.size+1=h3.size:=nT;simp -implicitDefEqProofs only[go_sem,rc,ZuE];obtain⟨g0,hg0⟩:=ZN (h3.push (K [D t (r:Nat),D t (m:Nat),J p1 (JA [] ⟨sl,⟨r,m⟩,k,c2,s2,nm,vv⟩).length c1].toArray 104):Hp);have e3:h3.push (K #[Value.int t (r:Nat),D t (m:Nat),J p1 (JA [] ⟨sl,⟨r,m⟩,k,c2,s2,nm,vv⟩).length c1] 104)=g0:=hg0.symm;rw[e3];have bg0:Zj h3.size h3 g0:=by rw[hg0];exact Zj.push (R _) _
 have sg0:g0.size=h3.size+1:=by rw[hg0];simp
 clear e3 hg0;refine (Ks T g0 k c2 s2 nm vv).use ?_;rintro _ g ⟨⟨wc,rfl,sC⟩,xw⟩;rw[mc,if_pos rfl]at sC;simp only[S]at sC ⊢;rw[mc];have lC:(ZB [k,c2,s2,nm,vv]).length=20:=by rw[ZK];rfl
 generalize ZB [k,c2,s2,nm,vv]=CB at *;obtain⟨pc,cc,rfl,_⟩:=sC.open;have bg:Zj h3.size h3 g:=bg0.trans (xw.mono nT);have sg:h3.size+1<=g.size:=by have:=xw.size;omega
 have Bg:Zj h.size h g:=fG.trans (bg.mono nT);have x4g:=bg.get nT x3;have t4:=bg.get nT t3;have t14:=bg.get nT t13;have r0:rd g ⟨h.size,0,O⟩ 2=Q [J p (H l) c,D t n]:=Zz t4 rfl;have c0:V.hc g ⟨h.size+1,0,O⟩=Q (D t (sl:Nat)):=by rw[Zl t14];rfl
 have c1':V.hc g ⟨h.size+1,1,O⟩=Q (D t (r:Nat)):=by rw[Zl t14];rfl
 have c2':V.hc g ⟨h.size+1,2,O⟩=Q (D t (m:Nat)):=by rw[Zl t14];rfl
 have k0:h.size<g.size:=nT;have k1:h.size+1<g.size:=nT;simp -implicitDefEqProofs only[go_sem];refine VS.w (g.size) [18,19] (.q 0 (.q 2 (.q 3 (.q 4 (.q 5 (.q 6 (.q 7 (.q 8 (.q 9 (.q 13 (.or 1 (.s 10 (.s 11 (.s 12 (.s 14 (.s 15 (.q 16 (.q 17 (.w 18 (.w 19 .nil))))))))) (.s 10 (.or 1 (.s 11 (.s 12 (.s 14 (.s 15 (.q 16 (.q 17 (.w 18 (.w 19 .nil)))))))) (.s 11 (.s 1 (.s 12 (.s 14 (.s 15 (.q 16 (.q 17 (.w 18 (.w 19 .nil)))))))))))))))))))))) mixed uj ?_;simp -implicitDefEqProofs only[go_sem,r0,c0,c1',c2',k0,k1];refine⟨?_,?_,?_⟩
 .have o0:Yx g.size 5 (g.push (K (([2]:List Nat).map bv).toArray 5)) (J (Q ⟨g.size,0,O⟩) 1 1) [2]:=Yx.made Iw (R _);have B0:Zj g.size g ((g.push (K (([2]:List Nat).map bv).toArray 5)).push (K (([sl,r,m]:List Nat).map nv).toArray 3)):=(Zj.push (R _) _).YU uK _;have o00:=o0.push (K (([sl,r,m]:List Nat).map nv).toArray 3);have si:NT ((g.push (K (([2]:List Nat).map bv).toArray 5)).push (K (([sl,r,m]:List Nat).map nv).toArray 3)) (J (Q ⟨(g.push (K (([2]:List Nat).map bv).toArray 5)).size,0,O⟩) 3 3) [sl,r,m]:=Tf _ _;have e1:(g.push (K (([2]:List Nat).map bv).toArray 5)).size=g.size+1:=uK;rw[e1]at si;refine (Rs T _ _ [sl,r,m] si uK (by intro x hx;simp only[bt,be,or_false]at hx;omega)).use ?_;rintro w5 h5 ⟨o5,b5⟩;have BB:=B0.trans (b5.mono B0.size);have o1:=o00.Yz b5 (R _);have s4:=o5.bs;simp -implicitDefEqProofs only[go_sem,BB];refine ZJ (E:=5) (B:=g.size) Xd a6 Tv Si Sh o1 BB.size s4 (by rw[ZK];simp) ?_;intro w6 h6 o6 b6 _;have B6:Zj g.size g h6:=BB.trans b6;have yM:Yx g.size 5 h6 w6 (2 :: ZB [sl,r,m]):=o6;have l6:(2 :: ZB [sl,r,m]).length=13:=by simp only[ao,ZK,a7]
  simp -implicitDefEqProofs only[go_sem,B6];refine ZJ (E:=5) (B:=g.size) Xd a6 Tv Si Sh yM B6.size (sC.Yz B6) nT ?_;intro w7 h7 o7 b7 _;have B7:Zj g.size g h7:=B6.trans b7;have Ev:=Bg.trans (B7.mono nT);have o7':Yx g.size 5 h7 w7 (2 :: (ZB [sl,r,m]++CB)):=o7;have el:(2 :: (ZB [sl,r,m]++CB)).length=33:=by rw[ao,U,lC,ZK];rfl
  simp -implicitDefEqProofs only[go_sem,B7];refine (Rr T h7 _ w7 n l (2 :: (ZB [sl,r,m]++CB)) (s.Yz Ev) hl o7'.bs nT (tk.Qx Ev)).use ?_;rintro _ h8 ⟨⟨w8,rfl,o8⟩,b8⟩;rw[el]at o8 ⊢;have B8:Zj g.size g h8:=B7.trans (b8.mono B7.size);have Bh8:=Ev.trans (b8.mono Ev.size);have x8:=B8.get nT x4g;have y8:=Yd x8 0;have zm:h.size+2<h8.size:=Za x8;generalize YR (2 :: (ZB [sl,r,m]++CB))=FR at *;obtain⟨E,hE⟩:=ZN (Qs l n 33);rw[<-hE]at o8 ⊢;obtain⟨z,hz⟩:∃z:Int,z=if E=0 then n else 0:=⟨_,rfl⟩
  rw[<-hz];obtain⟨pz,cz,rfl,_⟩:=o8.open;simp -implicitDefEqProofs only[go_sem,B8,y8,zm];refine⟨⟨_,rfl,?_⟩,Bh8.Zs nT _⟩;exact (o8.Z9 (by have:=B7.size;omega) _).mono (by have:=B7.size;omega)
 .have B0a:Zj g.size g (g.push (K (([sl,r,m]:List Nat).map nv).toArray 3)):=Zj.push (R _) _;have o0:Yx g.size 5 ((g.push (K (([sl,r,m]:List Nat).map nv).toArray 3)).push (K (([2]:List Nat).map bv).toArray 5)) (J (Q ⟨(g.push (K (([sl,r,m]:List Nat).map nv).toArray 3)).size,0,O⟩) 1 1) [2]:=(Yx.made Iw (R _)).mono uK;have B0:Zj g.size g ((g.push (K (([sl,r,m]:List Nat).map nv).toArray 3)).push (K (([2]:List Nat).map bv).toArray 5)):=B0a.YU uK _;have si0:NT (g.push (K (([sl,r,m]:List Nat).map nv).toArray 3)) (J (Q ⟨g.size,0,O⟩) 3 3) [sl,r,m]:=Tf _ _;have si:=si0.Yz (Zj.push (R _) (K (([2]:List Nat).map bv).toArray 5));have e1:(g.push (K (([sl,r,m]:List Nat).map nv).toArray 3)).size=g.size+1:=uK;rw[e1]at o0;refine (Rs T _ _ [sl,r,m] si uK (by intro x hx;simp only[bt,be,or_false]at hx;omega)).use ?_;rintro w5 h5 ⟨o5,b5⟩;have BB:=B0.trans (b5.mono B0.size);have o1:=o0.Yz b5 (R _);have s4:=o5.bs;simp -implicitDefEqProofs only[go_sem,BB];refine ZJ (E:=5) (B:=g.size) Xd a6 Tv Si Sh o1 BB.size s4 (by rw[ZK];simp) ?_;intro w6 h6 o6 b6 _;have B6:Zj g.size g h6:=BB.trans b6;have yM:Yx g.size 5 h6 w6 (2 :: ZB [sl,r,m]):=o6;have l6:(2 :: ZB [sl,r,m]).length=13:=by simp only[ao,ZK,a7]
  simp -implicitDefEqProofs only[go_sem,B6];refine ZJ (E:=5) (B:=g.size) Xd a6 Tv Si Sh yM B6.size (sC.Yz B6) nT ?_;intro w7 h7 o7 b7 _;have B7:Zj g.size g h7:=B6.trans b7;have Ev:=Bg.trans (B7.mono nT);have o7':Yx g.size 5 h7 w7 (2 :: (ZB [sl,r,m]++CB)):=o7;have el:(2 :: (ZB [sl,r,m]++CB)).length=33:=by rw[ao,U,lC,ZK];rfl
  simp -implicitDefEqProofs only[go_sem,B7];refine (Rr T h7 _ w7 n l (2 :: (ZB [sl,r,m]++CB)) (s.Yz Ev) hl o7'.bs nT (tk.Qx Ev)).use ?_;rintro _ h8 ⟨⟨w8,rfl,o8⟩,b8⟩;rw[el]at o8 ⊢;have B8:Zj g.size g h8:=B7.trans (b8.mono B7.size);have Bh8:=Ev.trans (b8.mono Ev.size);have x8:=B8.get nT x4g;have y8:=Yd x8 0;have zm:h.size+2<h8.size:=Za x8;generalize YR (2 :: (ZB [sl,r,m]++CB))=FR at *;obtain⟨E,hE⟩:=ZN (Qs l n 33);rw[<-hE]at o8 ⊢;obtain⟨z,hz⟩:∃z:Int,z=if E=0 then n else 0:=⟨_,rfl⟩
  rw[<-hz];obtain⟨pz,cz,rfl,_⟩:=o8.open;simp -implicitDefEqProofs only[go_sem,B8,y8,zm];refine⟨⟨_,rfl,?_⟩,Bh8.Zs nT _⟩;exact (o8.Z9 (by have:=B7.size;omega) _).mono (by have:=B7.size;omega)
 .have B0a:Zj g.size g (g.push (K (([sl,r,m]:List Nat).map nv).toArray 3)):=Zj.push (R _) _;have si:NT (g.push (K (([sl,r,m]:List Nat).map nv).toArray 3)) (J (Q ⟨g.size,0,O⟩) 3 3) [sl,r,m]:=Tf _ _;refine (Rs T _ _ [sl,r,m] si uK (by intro x hx;simp only[bt,be,or_false]at hx;omega)).use ?_;rintro w5 h5 ⟨o5,b5⟩;have BB5:=B0a.trans (b5.mono B0a.size);have BB:Zj g.size g (h5.push (K (([2]:List Nat).map bv).toArray 5)):=BB5.YU BB5.size _;have o1:Yx g.size 5 (h5.push (K (([2]:List Nat).map bv).toArray 5)) (J (Q ⟨h5.size,0,O⟩) 1 1) [2]:=(Yx.made Iw (R _)).mono BB5.size;have s4:=o5.bs.Yz (Zj.push (R h5.size) (K (([2]:List Nat).map bv).toArray 5));simp -implicitDefEqProofs only[go_sem,BB5,BB];refine ZJ (E:=5) (B:=g.size) Xd a6 Tv Si Sh o1 BB.size s4 (by rw[ZK];simp) ?_;intro w6 h6 o6 b6 _;have B6:Zj g.size g h6:=BB.trans b6;have yM:Yx g.size 5 h6 w6 (2 :: ZB [sl,r,m]):=o6;have l6:(2 :: ZB [sl,r,m]).length=13:=by simp only[ao,ZK,a7]
  simp -implicitDefEqProofs only[go_sem,B6];refine ZJ (E:=5) (B:=g.size) Xd a6 Tv Si Sh yM B6.size (sC.Yz B6) nT ?_;intro w7 h7 o7 b7 _;have B7:Zj g.size g h7:=B6.trans b7;have Ev:=Bg.trans (B7.mono nT);have o7':Yx g.size 5 h7 w7 (2 :: (ZB [sl,r,m]++CB)):=o7;have el:(2 :: (ZB [sl,r,m]++CB)).length=33:=by rw[ao,U,lC,ZK];rfl
  simp -implicitDefEqProofs only[go_sem,B7];refine (Rr T h7 _ w7 n l (2 :: (ZB [sl,r,m]++CB)) (s.Yz Ev) hl o7'.bs nT (tk.Qx Ev)).use ?_;rintro _ h8 ⟨⟨w8,rfl,o8⟩,b8⟩;rw[el]at o8 ⊢;have B8:Zj g.size g h8:=B7.trans (b8.mono B7.size);have Bh8:=Ev.trans (b8.mono Ev.size);have x8:=B8.get nT x4g;have y8:=Yd x8 0;have zm:h.size+2<h8.size:=Za x8;generalize YR (2 :: (ZB [sl,r,m]++CB))=FR at *;obtain⟨E,hE⟩:=ZN (Qs l n 33);rw[<-hE]at o8 ⊢;obtain⟨z,hz⟩:∃z:Int,z=if E=0 then n else 0:=⟨_,rfl⟩
  rw[<-hz];obtain⟨pz,cz,rfl,_⟩:=o8.open;simp -implicitDefEqProofs only[go_sem,B8,y8,zm];refine⟨⟨_,rfl,?_⟩,Bh8.Zs nT _⟩;exact (o8.Z9 (by have:=B7.size;omega) _).mono (by have:=B7.size;omega)
structure UH where
 p:Yn
 l:List Vt
def cG(b:List Nat):Vt->Vt:=fun v=>⟨v.Zt,v.b,XD b 0,XD b 4,XD b 8,XD b 12,XD b 16⟩
def JC(a:UH)(b:List Nat):Option UH:=
 if (H b)=9/\b.getD 0 0=1 then (if YG a.p a.l ⟨XD b 1,XD b 5⟩=0 then Q ⟨⟨XD b 1,XD b 5⟩,a.l⟩ else O)
 else if (H b)=33/\b.getD 0 0=2 then (if Qq (b.drop 13)≠0 then O else
  if Xi a.p a.l (cG (b.drop 13) ⟨XD b 1,⟨XD b 5,XD b 9⟩,0,0,0,0,0⟩)=0 then Q ⟨⟨XD b 5,XD b 9⟩,JA a.l (cG (b.drop 13) ⟨XD b 1,⟨XD b 5,XD b 9⟩,0,0,0,0,0⟩)⟩ else O)
 else O
def BN(B:Nat)(h':Hp)(v':a4)(a:UH)(b:List Nat):Prop:=∃P p m c,v'=.tuple [aa (Xy P (J p m c)).toArray,ae (JC a b).isSome].toArray/\∀x,JC a b=Q x->P=x.p/\Qv B 132 Zv 8 h' (J p m c) x.l
theorem QX(l:List Nat)(k i:Nat):XD (l.drop k) i=XD l (k+i):=by
 have e:∀j,(l.drop k).getD j 0=l.getD (k+j) 0:=fun j=>by rw[bc,bc,List.getElem?_drop]
 unfold XD;rw[e,e,e,e];rfl
theorem Zds(h:Hp)(v:a4)(l:List Nat)(s:Bs h v l)(hi:4<=(H l))(hl:(H l)<=140737488355328):
  Zd aw T 94 #[v] h fun v' h'=>v'=D t (XD l 0:Nat)/\h'=h:=by
 obtain⟨p,c,rfl,WE⟩:=s.VJ;refine Zd.XT [_] Tryz.func94 ?_;obtain⟨b,o,rfl,hb,XI⟩:=WE (by intro e;subst e;simp at hi);have c0:=XI 0 nT;have c1:=XI 1 nT;have c2:=XI 2 nT;have c3:=XI 3 nT;have w0:=Z3 s.byte 0;have w1:=Z3 s.byte 1;have w2:=Z3 s.byte 2;have w3:=Z3 s.byte 3;have e4:=Be w0 w1 w2 w3;have n0:(0:Int)<(H l):=nT;have n1:(1:Int)<(H l):=nT;have n2:(2:Int)<(H l):=nT;have n3:(3:Int)<(H l):=nT;rw[bf]at c0;unfold XD;rw[a5,a5,a5];generalize l.getD 0 0=a0 at *;generalize l.getD 1 0=a1 at *;generalize l.getD 2 0=a2 at *;generalize l.getD 3 0=a3 at *;simp -implicitDefEqProofs only[go_sem];refine VS.q mixed uj ?_;simp -implicitDefEqProofs only[go_sem,c0,c1,c2,c3,n0,n1,n2,n3,e4]
 trace_state
theorem OG(h:Hp)(bb oo d d' m m0:Nat)(b:List Nat)(k:Nat)(s:Bs h (J (Q ⟨bb,oo,O⟩) m0 d) b)(hm0:(H b)=m0)(hk:k+4<=m0)(hm:m=m0-k)(hl:m0<=100000):
  Zd aw T 94 #[J (Q ⟨bb,oo+k,O⟩) m d'] h fun v' h'=>v'=D t (XD b k:Nat)/\h'=h:=by
 subst hm;have s1:=RY s (k:=k) (by omega) hm0 d';have:=Zds T h _ (b.drop k) s1 (by rw[am];omega) (by rw[am];omega);rw[QX]at this;exact this
theorem jt(l:List Nat)(h:Qq l=0):GO l=[D t (XD l 0),D t (XD l 4),D t (XD l 8),D t (XD l 12),D t (XD l 16)]:=by
 unfold GO;rw[if_pos h];rfl
theorem qQ(l:List Nat)(h:¬Qq l=0):GO l=[D t 0,D t 0,D t 0,D t 0,D t 0]:=by
 unfold GO;rw[if_neg h];rfl
set_option maxHeartbeats 1000000 in
theorem zn(h:Hp)(P:Yn)(pv:Option Addr)(cv:Nat)(l:List Vt)(q:Option Addr)(m d:Nat)(b:List Nat)(s:Ts Zv 8 h (J pv (H l) cv) l)(sb:Bs h (J q m d) b)(hm:(H b)=m)(hl:(H l)<=1000000)(hb:m<=1000)(hd:m<=d):
  Zd aw T 74 #[aa (Xy P (J pv (H l) cv)).toArray,J q m d] h fun v' h'=>BN h.size h' v' ⟨P,l⟩ b/\Zj h.size h h':=by
 refine Zd.Ld [_,_] Tryz.func74 ?_;unfold Xy;simp -implicitDefEqProofs only[go_sem];obtain⟨h0,Ql⟩:=ZN ((h.push (K (Xy P (J pv (H l) cv)).toArray 104)).push (K [D t 0,D t 0,J O 0 0].toArray 104):Hp);have b0:Zj h.size h h0:=by rw[Ql];exact ((Zj.refl _ _).add _).add _
 have s0:h0.size=h.size+2:=by rw[Ql];simp
 have x0:h0[h.size]? = Q (K (Xy P (J pv (H l) cv)).toArray 104):=by
  rw[Ql,W,if_neg (by simp),Zc]
 have z0:h0[h.size+1]? = Q (K [D t 0,D t 0,J O 0 0].toArray 104):=by
  rw[Ql,W,if_pos (by simp)]
 have e0:(h.push (K #[Value.int t P.r,D t P.n,J pv (H l) cv] 104)).push (K #[Value.int t 0,D t 0,J O 0 0] 104)=h0:=Ql.symm;rw[e0];clear e0 Ql;have fin:∀(G:Hp) (k:Nat) (w:List a4),(H w)=3->w.all YD=true->G[k]? = Q (K [D t 0,D t 0,J O 0 0].toArray 104)->wr G ⟨k,0,O⟩ w=Q (G.setIfInBounds k (K w.toArray 104)):=by
  intro G k w h3 h1 hx;rw[Yd (b:=k) hx 0 w,Z4 (by rw[h3];rfl),if_pos ⟨by rw[h3];simp,h1⟩]
 have sb0:=sb.Yz b0;have s0':=s.Yz b0;have r0:rd h0 ⟨h.size,0,O⟩ 3=Q [D t P.r,D t P.n,J pv (H l) cv]:=Zz x0 rfl;have k0:h.size<h0.size:=by omega
 have k1:h.size+1<h0.size:=by omega
 unfold BN;by_cases n9:m=9
 .subst n9;have k9:((9:Nat):Int)=9:=rfl;obtain⟨q',d',hv,hh⟩:=sb0.VJ;simp only[Value.slice.injEq]at hv;obtain⟨rfl,_,rfl⟩:=hv;obtain⟨bb,oo,rfl,T5,XI⟩:=hh (by intro e;subst e;simp at hm);have c0:=XI 0 (by omega);rw[bf]at c0;by_cases q1:b.getD 0 0=1
  case neg=>
   have q1':¬((b.getD 0 0:Nat):Int)=1:=by omega
   have e:JC ⟨P,l⟩ b=O:=by
    unfold JC;rw[if_neg (fun hn=>q1 hn.2),if_neg (fun hn=>by omega)]
   have wz:=fin h0 (h.size+1) [D t P.r,D t P.n,J pv (H l) cv] rfl rfl z0;simp -implicitDefEqProofs only[go_sem,k9,c0,q1',e,r0,wz,k1];exact⟨⟨P,pv,(H l),cv,rfl,by simp⟩,b0.Zs (by omega) _⟩
  rw[q1]at c0;have e1:((1:Nat):Int)=1:=rfl;rw[e1]at c0;obtain⟨X,hX⟩:∃X:Yn,X=⟨XD b 1,XD b 5⟩:=⟨_,rfl⟩
  have e:JC ⟨P,l⟩ b=if YG P l X=0 then Q ⟨X,l⟩ else O:=by
   unfold JC;rw[if_pos ⟨hm,q1⟩,hX]
  have call:∀G,Ts Zv 8 G (J pv (H l) cv) l->Zd aw T 93 #[aa #[D t P.r,D t P.n,J pv (H l) cv],aa #[D t (XD b 1:Nat),D t (XD b 5:Nat)]] G fun v' h'=>aT G.size h' v' P l X/\Zj G.size G h':=fun G sG=>by
   rw[hX];exact RX T G P _ l _ sG (by omega)
  clear hX;have d1:¬d=1:=by omega
  have d5:¬d=5:=by omega
  have zo:=sb0;simp -implicitDefEqProofs only[go_sem,k9,c0];refine VS.mono (N:=fun F' g'=>Zj h0.size h0 g'/\F' 4=ab (Q ⟨h.size+1,0,O⟩)/\F' 8=D t (YG P l X)/\∃A p1 c1,h0.size<=A/\F' 6=ab (Q ⟨A,0,O⟩)/\g'[A]? = Q (K (Xy (if YG P l X=0 then X else ⟨0,0⟩) (J p1 (if YG P l X=0 then l else []).length c1)).toArray 104)/\Qv h0.size 132 Zv 8 g' (J p1 (if YG P l X=0 then l else []).length c1) (if YG P l X=0 then l else [])) ?_ ?_ (fun _ _ _ h=>h) (fun _ _ h=>h)
  .refine VS.w (h0.size) [] (.q 0 (.q 1 (.q 2 (.q 4 (.q 5 (.or 3 (.or 6 (.q 7 (.or 8 (.q 9 (.q 10 (.q 11 (.q 12 (.s 13 (.s 14 (.q 15 (.q 16 .nil)))))))) (.s 13 (.s 8 (.q 9 (.q 10 (.q 11 (.q 12 (.s 14 (.q 15 (.q 16 .nil))))))))))) (.s 13 (.s 6 (.q 7 (.s 8 (.q 9 (.q 10 (.q 11 (.q 12 (.s 14 (.q 15 (.q 16 .nil)))))))))))) (.s 13 (.s 3 (.s 6 (.q 7 (.s 8 (.q 9 (.q 10 (.q 11 (.q 12 (.s 14 (.q 15 (.q 16 .nil)))))))))))))))))) mixed (by kernel_rfl) ?_;simp -implicitDefEqProofs only[go_sem,r0,k0,k9,d1,d5,c0,S]
   repeat' (first
     | with_reducible exact Zj.refl _ _
     | with_reducible exact Zj.push (by omega) _
     | (with_reducible refine (OG T _ bb oo d _ _ _ b 1 (by first|exact zo|exact zo.Yz (Zj.push (R _) _)) hm (by omega) rfl (by omega)).pure ?_;simp -implicitDefEqProofs only[go_sem,r0,k0,c0,S])
     | (with_reducible refine (OG T _ bb oo d _ _ _ b 5 (by first|exact zo|exact zo.Yz (Zj.push (R _) _)) hm (by omega) rfl (by omega)).pure ?_;simp -implicitDefEqProofs only[go_sem,r0,k0,c0,S])
     | with_reducible refine And.intro ?_ ?_)
   all_goals first
    | (refine (call h0 s0').use ?_
       rintro _ g1 ⟨⟨w1,w2,rfl,o1,o2⟩,b1⟩;obtain⟨p1,c1,rfl,_⟩:=o1.open;obtain⟨p2,c2,rfl,_⟩:=o2.open;generalize (if YG P l X=0 then X else ⟨0,0⟩)=Y at *;generalize (if YG P l X=0 then l else [])=L at *;generalize YG P l X=E at *;have s1:=b1.size;unfold Xy;simp -implicitDefEqProofs only[go_sem,b1];exact⟨_,_,_,s1,rfl,Zc,o1.push _⟩)
    | (refine (call (h0.push (K [D t 0,D t 0,J O 0 0].toArray 104)) (s0'.Yz (Zj.push (R _) _))).use ?_
       rintro _ g1 ⟨⟨w1,w2,rfl,o1,o2⟩,b1⟩;obtain⟨p1,c1,rfl,_⟩:=o1.open;obtain⟨p2,c2,rfl,_⟩:=o2.open;generalize (if YG P l X=0 then X else ⟨0,0⟩)=Y at *;generalize (if YG P l X=0 then l else [])=L at *;generalize YG P l X=E at *;have B1:Zj h0.size h0 g1:=(Zj.push (R _) _).trans (b1.mono (by simp));have xA:=b1.get (by simp) Zc;have yA:=fin g1 h0.size [D t Y.r,D t Y.n,J p1 (H L) c1] rfl rfl xA;have hz:=Za xA;unfold Xy;simp -implicitDefEqProofs only[go_sem,B1,yA,hz];exact⟨_,_,_,R _,rfl,ZQ xA,(o1.Z9 (b:=h0.size) (by simp) _).mono (by simp)⟩)
  .rintro F' g' ⟨hB,f4,f8,A,p1,c1,hA,f6,xA,oA⟩;have z1:=hB.get (by omega) z0;have k1':=Za z1;have rA:rd g' ⟨A,0,O⟩ 3=_:=Zz xA rfl;generalize hY:(if YG P l X=0 then X else ⟨0,0⟩)=Y at *;generalize hL:(if YG P l X=0 then l else [])=L at *;generalize YG P l X=E at *;unfold Xy at rA;have wz:=fin g' (h.size+1) [D t Y.r,D t Y.n,J p1 (H L) c1] rfl rfl z1;have bb':Zj h.size h (g'.setIfInBounds (h.size+1) (K [D t Y.r,D t Y.n,J p1 (H L) c1].toArray 104)):=(b0.trans (hB.mono (by omega))).Zs (by omega) _;by_cases q:E=0
   .rw[if_pos q]at e hY hL;simp -implicitDefEqProofs only[go_sem,f4,f6,f8,rA,wz,k1',q,e];refine⟨⟨Y,p1,(H L),c1,rfl,fun x hx=>?_⟩,bb'⟩
    cases hx
    exact⟨hY.symm,by rw[hL];exact (oA.Z9 (by omega) _).mono (by omega)⟩
   .rw[if_neg q]at e;simp -implicitDefEqProofs only[go_sem,f4,f6,f8,rA,wz,k1',q,e];exact⟨⟨Y,p1,(H L),c1,rfl,by simp⟩,bb'⟩
 have n9':¬(m:Int)=9:=by omega
 by_cases n33:m=33
 case neg=>
  have ZuG:¬(m:Int)=33:=by omega
  have e:JC ⟨P,l⟩ b=O:=by
   unfold JC;rw[if_neg (fun hn=>by omega),if_neg (fun hn=>by omega)]
  have wz:=fin h0 (h.size+1) [D t P.r,D t P.n,J pv (H l) cv] rfl rfl z0;simp -implicitDefEqProofs only[go_sem,n9',ZuG,e,r0,wz,k1];exact⟨⟨P,pv,(H l),cv,rfl,by simp⟩,b0.Zs (by omega) _⟩
 subst n33;have k33:((33:Nat):Int)=33:=rfl;clear n9';obtain⟨q',d',hv,hh⟩:=sb0.VJ;simp only[Value.slice.injEq]at hv;obtain⟨rfl,_,rfl⟩:=hv;obtain⟨bb,oo,rfl,T5,XI⟩:=hh (by intro e;subst e;simp at hm);have c0:=XI 0 (by omega);rw[bf]at c0;by_cases q2:b.getD 0 0=2
 case neg=>
  have q2':¬((b.getD 0 0:Nat):Int)=2:=by omega
  have e:JC ⟨P,l⟩ b=O:=by
   unfold JC;rw[if_neg (fun hn=>by omega),if_neg (fun hn=>q2 hn.2)]
  have wz:=fin h0 (h.size+1) [D t P.r,D t P.n,J pv (H l) cv] rfl rfl z0;simp -implicitDefEqProofs only[go_sem,k33,c0,q2',e,r0,wz,k1];exact⟨⟨P,pv,(H l),cv,rfl,by simp⟩,b0.Zs (by omega) _⟩
 rw[q2]at c0;have e2:((2:Nat):Int)=2:=rfl;rw[e2]at c0;have d13:¬d=13:=by omega
 have d33:(33:Int)<=(d:Int):=by omega
 have s13:=fun c'=>RY sb0 (k:=13) (by omega) hm c';simp -implicitDefEqProofs only[go_sem,k33,c0,d13,d33,S];refine (Dz T h0 _ (b.drop 13) (s13 _) (by rw[am];omega)).use ?_;rintro _ g ⟨rfl,bg⟩;have sg:=bg.size;by_cases q3:Qq (b.drop 13)=0
 case neg=>
  have e:JC ⟨P,l⟩ b=O:=by
   unfold JC;rw[if_neg (fun hn=>by omega),if_pos ⟨hm,q2⟩,if_pos q3]
  rw[qQ _ q3];have zg:=bg.get k1 z0;have xg:=bg.get k0 x0;have rg:rd g ⟨h.size,0,O⟩ 3=Q [D t P.r,D t P.n,J pv (H l) cv]:=Zz xg rfl;have wz:=fin g (h.size+1) [D t P.r,D t P.n,J pv (H l) cv] rfl rfl zg;have ZuI:¬h.size=g.size:=by omega
  have bQ:¬h.size+1=g.size:=by omega
  have zi:h.size+1<g.size:=by omega
  simp -implicitDefEqProofs only[go_sem,q3,e,rg,wz,ZuI,bQ,zi];exact⟨⟨P,pv,(H l),cv,rfl,by simp⟩,((b0.trans (bg.mono (by omega))).Zs (by omega) _).YU (by simp;omega) _⟩
 rw[jt _ q3,q3];obtain⟨X,hX⟩:∃X:Vt,X=cG (b.drop 13) ⟨XD b 1,⟨XD b 5,XD b 9⟩,0,0,0,0,0⟩:=⟨_,rfl⟩
 have e:JC ⟨P,l⟩ b=if Xi P l X=0 then Q ⟨X.b,JA l X⟩ else O:=by
  unfold JC;rw[if_neg (fun hn=>by omega),if_pos ⟨hm,q2⟩,if_neg (fun hn=>hn q3),<-hX];rw[show (⟨((XD b 5:Nat):Int),((XD b 9:Nat):Int)⟩:Yn)=X.b by rw[hX];rfl]
 have call:∀G,Ts Zv 8 G (J pv (H l) cv) l->Zd aw T 95 #[aa #[D t P.r,D t P.n,J pv (H l) cv],aa #[D t (XD b 1:Nat),D t (XD b 5:Nat),D t (XD b 9:Nat),D t (XD (b.drop 13) 0:Nat),D t (XD (b.drop 13) 4:Nat),D t (XD (b.drop 13) 8:Nat),D t (XD (b.drop 13) 12:Nat),D t (XD (b.drop 13) 16:Nat)]] G fun v' h'=>mJ G.size h' v' P l X/\Zj G.size G h':=fun G sG=>by
  rw[hX];exact KK T G P _ l _ sG (by omega)
 clear hX;generalize XD (b.drop 13) 0=y0 at *;generalize XD (b.drop 13) 4=y4 at *;generalize XD (b.drop 13) 8=y8 at *;generalize XD (b.drop 13) 12=y12 at *;generalize XD (b.drop 13) 16=y16 at *;obtain⟨h1,Xm⟩:=ZN (g.push (K [D t (y0:Nat),D t (y4:Nat),D t (y8:Nat),D t (y12:Nat),D t (y16:Nat)].toArray 24):Hp);have e1:g.push (K #[Value.int t (y0:Nat),D t (y4:Nat),D t (y8:Nat),D t (y12:Nat),D t (y16:Nat)] 24)=h1:=Xm.symm;simp -implicitDefEqProofs only[go_sem];rw[e1];have b1:Zj h0.size h0 h1:=by rw[Xm];exact bg.YU sg _
 have s1h:h1.size=g.size+1:=by rw[Xm];simp
 have c1h:h1[g.size]? = Q (K [D t (y0:Nat),D t (y4:Nat),D t (y8:Nat),D t (y12:Nat),D t (y16:Nat)].toArray 24):=by rw[Xm];exact Zc
 clear e1 Xm;have x1:=b1.get k0 x0;have z1h:=b1.get k1 z0;have r1:rd h1 ⟨h.size,0,O⟩ 3=Q [D t P.r,D t P.n,J pv (H l) cv]:=Zz x1 rfl;have rc1:rd h1 ⟨g.size,0,O⟩ 5=Q [D t (y0:Nat),D t (y4:Nat),D t (y8:Nat),D t (y12:Nat),D t (y16:Nat)]:=Zz c1h rfl;have c0h:hc h1 ⟨bb,oo,O⟩=Q (D .u8 2):=by rw[b1.hc (by exact T5)];exact c0
 have k0h:h.size<h1.size:=by omega
 have kch:g.size<h1.size:=by omega
 have zo:=sb0.Yz b1;have s1':=s0'.Yz b1;have d1:¬d=1:=by omega
 have d5:¬d=5:=by omega
 have d9:¬d=9:=by omega
 have B1:Zj h.size h h1:=b0.trans (b1.mono (by omega));refine VS.mono (N:=fun F' g'=>Zj h1.size h1 g'/\F' 4=ab (Q ⟨h.size+1,0,O⟩)/\F' 10=D t (Xi P l X)/\∃A p1 c1,h1.size<=A/\F' 11=ab (Q ⟨A,0,O⟩)/\g'[A]? = Q (K (Xy (if Xi P l X=0 then X.b else ⟨0,0⟩) (J p1 (if Xi P l X=0 then JA l X else []).length c1)).toArray 104)/\Qv h1.size 132 Zv 8 g' (J p1 (if Xi P l X=0 then JA l X else []).length c1) (if Xi P l X=0 then JA l X else [])) ?_ ?_ (fun _ _ _ h=>h) (fun _ _ h=>h)
 .refine VS.w (h1.size) [] (.q 0 (.q 1 (.q 2 (.q 4 (.q 5 (.q 7 (.q 8 (.q 11 (.or 3 (.or 6 (.or 9 (.q 10 (.q 12 (.or 13 (.q 14 (.q 15 (.q 16 (.s 17 (.s 18 (.q 19 .nil)))))) (.s 17 (.s 13 (.q 14 (.q 15 (.q 16 (.s 18 (.q 19 .nil)))))))))) (.s 17 (.s 9 (.q 10 (.q 12 (.s 13 (.q 14 (.q 15 (.q 16 (.s 18 (.q 19 .nil))))))))))) (.s 17 (.s 6 (.s 9 (.q 10 (.q 12 (.s 13 (.q 14 (.q 15 (.q 16 (.s 18 (.q 19 .nil)))))))))))) (.s 17 (.s 3 (.s 6 (.s 9 (.q 10 (.q 12 (.s 13 (.q 14 (.q 15 (.q 16 (.s 18 (.q 19 .nil))))))))))))))))))))) mixed (by kernel_rfl) ?_;simp -implicitDefEqProofs only[go_sem,r1,rc1,k0h,kch,k33,d1,d5,d9,c0h,S]
  repeat' (first
    | with_reducible exact Zj.refl _ _
    | with_reducible exact Zj.push (by omega) _
    | (with_reducible refine (OG T _ bb oo d _ _ _ b 1 (by first|exact zo|exact zo.Yz (Zj.push (R _) _)) hm (by omega) rfl (by omega)).pure ?_;simp -implicitDefEqProofs only[go_sem,r1,rc1,k0h,kch,c0h,S])
    | (with_reducible refine (OG T _ bb oo d _ _ _ b 5 (by first|exact zo|exact zo.Yz (Zj.push (R _) _)) hm (by omega) rfl (by omega)).pure ?_;simp -implicitDefEqProofs only[go_sem,r1,rc1,k0h,kch,c0h,S])
    | (with_reducible refine (OG T _ bb oo d _ _ _ b 9 (by first|exact zo|exact zo.Yz (Zj.push (R _) _)) hm (by omega) rfl (by omega)).pure ?_;simp -implicitDefEqProofs only[go_sem,r1,rc1,k0h,kch,c0h,S])
    | with_reducible refine And.intro ?_ ?_)
  all_goals first
   | (refine (call h1 s1').use ?_
      rintro _ g1 ⟨⟨w1,rfl,o1⟩,b1⟩;obtain⟨p1,c1,rfl,_⟩:=o1.open;generalize (if Xi P l X=0 then X.b else ⟨0,0⟩)=Y at *;generalize (if Xi P l X=0 then JA l X else [])=L at *;generalize Xi P l X=E at *;have s1:=b1.size;unfold Xy;simp -implicitDefEqProofs only[go_sem,b1];exact⟨_,_,_,s1,rfl,Zc,o1.push _⟩)
   | (refine (call (h1.push (K [D t 0,D t 0,J O 0 0].toArray 104)) (s1'.Yz (Zj.push (R _) _))).use ?_
      rintro _ g1 ⟨⟨w1,rfl,o1⟩,b1⟩;obtain⟨p1,c1,rfl,_⟩:=o1.open;generalize (if Xi P l X=0 then X.b else ⟨0,0⟩)=Y at *;generalize (if Xi P l X=0 then JA l X else [])=L at *;generalize Xi P l X=E at *;have B1:Zj h1.size h1 g1:=(Zj.push (R _) _).trans (b1.mono (by simp));have xA:=b1.get (by simp) Zc;have yA:=fin g1 h1.size [D t Y.r,D t Y.n,J p1 (H L) c1] rfl rfl xA;have hz:=Za xA;unfold Xy;simp -implicitDefEqProofs only[go_sem,B1,yA,hz];exact⟨_,_,_,R _,rfl,ZQ xA,(o1.Z9 (b:=h1.size) (by simp) _).mono (by simp)⟩)
 .rintro F' g' ⟨hB,f4,f8,A,p1,c1,hA,f6,xA,oA⟩;have z1:=hB.get (by omega) z1h;have k1':=Za z1;have rA:rd g' ⟨A,0,O⟩ 3=_:=Zz xA rfl;generalize hY:(if Xi P l X=0 then X.b else ⟨0,0⟩)=Y at *;generalize hL:(if Xi P l X=0 then JA l X else [])=L at *;generalize Xi P l X=E at *;unfold Xy at rA;have wz:=fin g' (h.size+1) [D t Y.r,D t Y.n,J p1 (H L) c1] rfl rfl z1;have bb':Zj h.size h (g'.setIfInBounds (h.size+1) (K [D t Y.r,D t Y.n,J p1 (H L) c1].toArray 104)):=(B1.trans (hB.mono (by omega))).Zs (by omega) _;by_cases q:E=0
  .rw[if_pos q]at e hY hL;simp -implicitDefEqProofs only[go_sem,f4,f6,f8,rA,wz,k1',q,e];refine⟨⟨Y,p1,(H L),c1,rfl,fun x hx=>?_⟩,bb'⟩
   cases hx
   exact⟨hY.symm,by rw[hL];exact (oA.Z9 (by omega) _).mono (by omega)⟩
  .rw[if_neg q]at e;simp -implicitDefEqProofs only[go_sem,f4,f6,f8,rA,wz,k1',q,e];exact⟨⟨Y,p1,(H L),c1,rfl,by simp⟩,bb'⟩
theorem ju{h:Hp}{bp op m c k n off m' c':Nat}{l:List Nat}(s:Bs h (J (Q ⟨bp,op,O⟩) m c) l)(hm:(H l)=m)(hk:k+n<=m)(ho:off=op+k)(HE:m'=n):Bs h (J (Q ⟨bp,off,O⟩) m' c') ((l.drop k).take n):=by
 subst ho;subst HE;have s1:=RY s (k:=k) (by omega) hm c';have e:m-k=(l.drop k).length:=by rw[am];omega
 rw[e]at s1;exact s1.Md (by rw[am];omega) c'
def Vs(l:List Nat)(k:Nat):Nat:=1+l.getD k 0
def Y2(l:List Nat)(a:UH)(k:Nat):Option (UH × Nat):=
 if k<(H l)/\k+Vs l k+4<=(H l)/\(TX ((l.drop k).take (Vs l k))).take 4=(l.drop (k+Vs l k)).take 4 then
  (JC a ((l.drop (k+1)).take (Vs l k-1))).map fun x=>(x,k+(Vs l k+4))
 else O
inductive Rec(l:List Nat):UH->Nat->UH->Nat->Prop
 | stop {a:UH} {k:Nat}:Y2 l a k=O->Rec l a k a k
 | go {a a' r:UH} {k k' j:Nat}:Y2 l a k=Q (a',k')->Rec l a' k' r j->Rec l a k r j
def JJ:UH:=⟨⟨0,0⟩,[]⟩
def zp(B:Nat)(h':Hp)(v':a4)(l:List Nat)(n:Int):Prop:=∃(r:UH) (k:Nat) (E:Int) (w:a4),v'=.tuple [aa (Xy r.p w).toArray,D t k,D t E].toArray/\Qv B 132 Zv 8 h' w r.l/\k<=(H l)/\(H r.l)<=k /\
 if YX l n then E=0/\Rec l JJ 0 r k else E=5/\r=JJ/\k=0
theorem cH{l:List Vt}(hs:Srt l)(v:Vt):(JA l v).length<=(H l)+1:=by
 have:∀l:List Vt,(l.filter (fun x=>decide (x.Zt<v.Zt))).length+(l.filter (fun x=>decide (v.Zt<x.Zt))).length<=(H l):=by
  intro l
  induction l with
  | nil=>simp
  | cons x l ih=>
   simp only[List.filter_cons,ao];by_cases q1:x.Zt<v.Zt
   .rw[if_pos (by simpa using q1),if_neg Ig,ao];omega
   .rw[if_neg (by simpa using q1)];by_cases q2:v.Zt<x.Zt
    .rw[if_pos (by simpa using q2),ao];omega
    .rw[if_neg (by simpa using q2)];omega
 have:=this l;unfold JA;rw[U,ao];omega
theorem BO{a x:UH}{b:List Nat}(h:JC a b=Q x):(H x.l)<=(H a.l)+1:=by
 unfold JC at h;split at h
 .split at h
  .cases h;simp
  .cases h
 .split at h
  .split at h
   .cases h
   .split at h
    .rename_i q
     cases h
     have:Jz a.p a.l=0:=by
      unfold Xi at q;split at q
      .cases q
      .rename_i hn;simpa using hn
     exact cH (G6 this) _
    .cases h
  .cases h
set_option maxHeartbeats 2000000 in
theorem Fu(h:Hp)(v:a4)(n:Int)(l:List Nat)(s:Bs h v l)(hl:(H l)<=140737488355328)(tk:Tk h):
  Zd aw T 55 #[aa [v,D t n].toArray] h fun v' h'=>zp h.size h' v' l n/\Zj h.size h h':=by
 obtain⟨p,c,rfl,_⟩:=s.open;refine Zd.Ld [_] Tryz.func55 ?_;unfold zp;simp -implicitDefEqProofs only[go_sem];obtain⟨h0,Ql⟩:=ZN ((h.push (K [J p (H l) c,D t n].toArray 99)).push (K [D t 0,D t 0,J O 0 0].toArray 104):Hp);have b0:Zj h.size h h0:=by rw[Ql];exact ((Zj.refl _ _).add _).add _
 have s0:h0.size=h.size+2:=by rw[Ql];simp
 have z0:h0[h.size+1]? = Q (K [D t 0,D t 0,J O 0 0].toArray 104):=by
  rw[Ql,W,if_pos uK]
 have e0:(h.push (K #[Value.slice p (H l) c,D t n] 99)).push (K #[Value.int t 0,D t 0,J O 0 0] 104)=h0:=Ql.symm;rw[e0];clear e0 Ql;have fin:∀(G:Hp) (w:List a4),(H w)=3->w.all YD=true->G[h.size+1]? = Q (K [D t 0,D t 0,J O 0 0].toArray 104)->wr G ⟨h.size+1,0,O⟩ w=Q (G.setIfInBounds (h.size+1) (K w.toArray 104)):=by
  intro G w h3 h1 hx;rw[Yd (b:=h.size+1) hx 0 w,Z4 (by rw[h3];rfl),if_pos ⟨by rw[h3];simp,h1⟩]
 refine (UX T h0 _ n l (s.Yz b0) hl).use ?_;rintro _ h1 ⟨b1,o1⟩;have s1:=b1.size;have B1:Zj h.size h h1:=b0.trans (b1.mono nT);have z1:=b1.get nT z0;by_cases ok:YX l n
 case neg=>
  rw[if_neg (show ¬((H l)<=100000/\0<=n/\n<=(H l)) from ok)]at o1;subst o1;have y2:=fin h1 [D t 0,D t 0,J O 0 0] rfl rfl z1;have ZS:h.size+1<h1.size:=nT;have Y4:¬h.size+1=h1.size:=nT;simp -implicitDefEqProofs only[go_sem,y2,Y4,ZS];refine⟨⟨JJ,0,5,J O 0 0,rfl,Qv.nil _ _ _ _ _,bo _,R _,?_⟩,(B1.Zs nT _).YU Ig _⟩;rw[if_neg ok];exact⟨rfl,rfl,rfl⟩
 rw[if_pos (show ((H l)<=100000/\0<=n/\n<=(H l)) from ok)]at o1;obtain⟨w,rfl,o1⟩:=o1;obtain⟨pw,cw,rfl,hcw⟩:=o1.open;have l1:=ok.1;obtain⟨h2,VZ⟩:=ZN ((h1.push (K [J pw (H l) cw,D t n].toArray 99)).push (K [D t 0,D t 0,J O 0 0].toArray 104):Hp);have e2:(h1.push (K #[Value.slice pw (H l) cw,D t n] 99)).push (K #[Value.int t 0,D t 0,J O 0 0] 104)=h2:=VZ.symm;simp -implicitDefEqProofs only[go_sem];rw[e2];have b2:Zj h1.size h1 h2:=by rw[VZ];exact ((Zj.refl _ _).add _).add _
 have s2:h2.size=h1.size+2:=by rw[VZ];simp
 have t2:h2[h1.size]? = Q (K [J pw (H l) cw,D t n].toArray 99):=by
  rw[VZ,W,if_neg uK,Zc]
 have a2:h2[h1.size+1]? = Q (K [D t 0,D t 0,J O 0 0].toArray 104):=by
  rw[VZ,W,if_pos uK]
 clear e2 VZ;have z2:=b2.get nT z1;obtain⟨A,hA⟩:=ZN (h1.size+1);rw[<-hA]at a2 ⊢;have sw:=o1.bs.Yz b2;have B2:Zj h.size h h2:=B1.trans (b2.mono nT);have tk2:Tk h2:=tk.Qx B2;have blo:=o1.Zm.ZW;refine VS.Yk (fun F g=>Zj A h2 g/\F 2=ab (Q ⟨h.size+1,0,O⟩)/\F 5=ab (Q ⟨h1.size,0,O⟩)/\F 7=ab (Q ⟨A,0,O⟩)/\∃(k:Nat) (a:UH) (p1:Option Addr) (c1:Nat),k<=(H l)/\F 8=D t k/\g[A]? = Q (K (Xy a.p (J p1 (H a.l) c1)).toArray 104)/\Qv (A+1) 132 Zv 8 g (J p1 (H a.l) c1) a.l/\(H a.l)<=k/\∀r j,Rec l a k r j->Rec l JJ 0 r j)
  (fun F _=>(H l)-(vi (F 8)).toNat) rfl ⟨Zj.refl _ _,rfl,rfl,rfl,0,JJ,O,0,bo _,rfl,a2,Qv.nil _ _ _ _ _,bo _,fun _ _ h=>h⟩ ?_
 rintro F g ⟨hg,f2,f5,f7,k,a,p1,c1,hk,f8,xa,oa,hal,Zms⟩;have tg:=hg.get nT t2;have zg:=hg.get nT z2;have hzA:=Za xa;have fact:∀G,Zj g.size g G->V.hc G ⟨h1.size,0,O⟩=Q (J pw (H l) cw)/\rd G ⟨A,0,O⟩ 3=Q [D t a.p.r,D t a.p.n,J p1 (H a.l) c1] /\
   wr G ⟨h.size+1,0,O⟩ [D t a.p.r,D t a.p.n,J p1 (H a.l) c1]=Q (G.setIfInBounds (h.size+1) (K [D t a.p.r,D t a.p.n,J p1 (H a.l) c1].toArray 104))/\h.size+1<G.size/\Zj A h2 G /\
   G[A]? = Q (K (Xy a.p (J p1 (H a.l) c1)).toArray 104)/\Qv (A+1) 132 Zv 8 G (J p1 (H a.l) c1) a.l/\Bs G (J pw (H l) cw) l:=by
  intro G hG;have tG:=hG.get nT tg;have zG:=hG.get nT zg;have xG:=hG.get nT xa;have bG:Zj A h2 G:=hg.trans (hG.mono nT);exact⟨by rw[Zl tG];rfl,Zz xG rfl,fin G _ rfl rfl zG,Za zG,bG,xG,oa.Yz hG (R _),o1.bs.Yz (b2.trans (bG.mono nT))⟩
 have done:∀G,Zj g.size g G->Y2 l a k=O->(∃(r:UH) (k':Nat) (E:Int) (w:a4),Value.tuple [aa (Xy a.p (J p1 (H a.l) c1)).toArray,D t (k:Nat),D t 0].toArray=.tuple [aa (Xy r.p w).toArray,D t (k':Nat),D t E].toArray/\Qv h.size 132 Zv 8 (G.setIfInBounds (h.size+1) (K [D t a.p.r,D t a.p.n,J p1 (H a.l) c1].toArray 104)) w r.l/\k'<=(H l)/\(H r.l)<=k'/\if YX l n then E=0/\Rec l JJ 0 r k' else E=5/\r=JJ/\k'=0)/\Zj h.size h (G.setIfInBounds (h.size+1) (K [D t a.p.r,D t a.p.n,J p1 (H a.l) c1].toArray 104)):=by
  intro G hG e;obtain⟨_,_,_,_,bG,_,oG,_⟩:=fact G hG;refine⟨⟨a,k,0,_,rfl,(oG.Z9 nT _).mono nT,hk,hal,?_⟩,(B2.trans (bG.mono nT)).Zs nT _⟩;rw[if_pos ok];exact⟨rfl,Zms _ _ (.stop e)⟩
 obtain⟨rt,ra,wf,hlz,_,_,_,swg⟩:=fact g (Zj.refl _ _);by_cases ZS:k<(H l)
 case neg=>
  have Z7:¬(k:Int)<(H l):=nT;have e:Y2 l a k=O:=by unfold Y2;rw[if_neg (fun hn=>ZS hn.1)]
  simp -implicitDefEqProofs only[go_sem,f2,f5,f7,f8,rt,Z7,ra,wf,hlz];exact done g (Zj.refl _ _) e
 have Z7:(k:Int)<(H l):=nT;obtain⟨q',d',hv,hh⟩:=swg.VJ;simp only[Value.slice.injEq,true_and]at hv;obtain⟨rfl,rfl⟩:=hv;obtain⟨bx,ox,rfl,hbx,XI⟩:=hh (by intro e;subst e;simp at ZS);have rx:=XI k ZS;have hx:=Z3 swg.byte k;obtain⟨N,hN⟩:=ZN (Vs l k);have hN':N=1+l.getD k 0:=hN;have e1:(1:Int)+((l.getD k 0:Nat):Int)=(N:Int):=nT;have e2:(N:Int)+4=((N+4:Nat):Int):=nT;have d1:¬cw=k:=nT;have n0:(0:Int)<(((H l)-k:Nat):Int):=nT;have n1:(0:Int)<=(k:Int):=nT;have n2:(k:Int)<=((H l):Int):=nT;by_cases hsh:(H l)-k<N+4
 case pos=>
  have Zhx:(((H l)-k:Nat):Int)<((N+4:Nat):Int):=nT;have e:Y2 l a k=O:=by unfold Y2;rw[<-hN,if_neg (fun hn=>by omega)]
  simp -implicitDefEqProofs only[go_sem,f2,f5,f7,f8,rt,Z7,ra,wf,hlz,rx,e1,e2,d1,n0,n1,n2,Zhx,S];exact done g (Zj.refl _ _) e
 have Zhx:¬(((H l)-k:Nat):Int)<((N+4:Nat):Int):=nT;have n3:(0:Int)<=(N:Int):=nT;have n4:(N:Int)<=((cw-k:Nat):Int):=nT;simp -implicitDefEqProofs only[go_sem,f2,f5,f7,f8,rt,Z7,rx,e1,e2,d1,n0,n1,n2,n3,n4,Zhx,S];have sN:Bs g (J (Q ⟨bx,ox+k,O⟩) N (cw-k)) ((l.drop k).take N):=ju swg rfl nT rfl rfl;have Bg:Zj h.size h g:=B2.trans (hg.mono nT);refine (KB T g _ _ sN (tk.Qx Bg)).use ?_;rintro _ g1 ⟨⟨w5,rfl,o5⟩,b5⟩;have e0:RZ ((l.drop k).take N).length=0:=by unfold RZ;rw[aU,am,if_neg nT]
 rw[e0,if_pos rfl]at o5;rw[e0];have ml:=Qj ((l.drop k).take N);obtain⟨M,hM⟩:=ZN (TX ((l.drop k).take N));rw[<-hM]at o5 ml;obtain⟨p5,c5,rfl,hc5⟩:=o5.open;have sM:=o5.bs;obtain⟨rt1,ra1,wf1,ZuK,bA1,xA1,oA1,sw1⟩:=fact g1 b5;have s5:=b5.size;have h4:(4:Int)<=(c5:Int):=nT;have n5:((N+4:Nat):Int)<=((cw-k:Nat):Int):=nT;have n6:(N:Int)<=((N+4:Nat):Int):=nT;have n7:(0:Int)<=((N+4:Nat):Int):=nT;have d2:¬cw-k=N:=nT;have hMd:Bs g1 (J p5 4 c5) (M.take 4):=sM.Md nT c5;have hRd:Bs g1 (J (Q ⟨bx,ox+k+N,O⟩) (N+4-N) (cw-k-N)) ((l.drop (k+N)).take 4):=ju sw1 rfl nT nT nT;simp -implicitDefEqProofs only[go_sem,f2,f5,f7,f8];refine VS.w (g1.size) [] (.q 0 (.q 1 (.q 2 (.q 3 (.q 4 (.q 5 (.q 6 (.s 7 (.q 8 .nil))))))))) mixed uj ?_;simp -implicitDefEqProofs only[go_sem,f2,f5,f7,f8,h4,e2,n3,n5,n6,n7,d2,S];refine (Bd T g1 _ _ (M.take 4) ((l.drop (k+N)).take 4) hMd hRd aac).pure ?_;have eR:(l.drop (k+N)).take 4=(l.drop (k+Vs l k)).take 4:=by rw[<-hN]
 by_cases heq:M.take 4=(l.drop (k+N)).take 4
 case neg=>
  have hd:decide (M.take 4=(l.drop (k+N)).take 4)=false:=decide_eq_false heq;have e:Y2 l a k=O:=by
   unfold Y2;rw[<-hN,<-hM,if_neg (fun hn=>heq hn.2.2)]
  rw[hd];simp -implicitDefEqProofs only[go_sem,f2,f5,f7,f8,ra1,wf1,ZuK];exact done g1 b5 e
 have hd:decide (M.take 4=(l.drop (k+N)).take 4)=true:=decide_eq_true heq;rw[hd];obtain⟨bd,iJ⟩:=ZN ((l.drop (k+1)).take (N-1));have Zft:Y2 l a k=(JC a bd).map fun x=>(x,k+(N+4)):=by
  unfold Y2;rw[<-hN,<-hM,if_pos ⟨ZS,nT,heq⟩,iJ]
 have lbd:(H bd)=N-1:=by rw[iJ,aU,am];omega
 have sbd:Bs g1 (J (Q ⟨bx,ox+k+1,O⟩) (N-1) (cw-k-1)) bd:=by rw[iJ];exact ju sw1 rfl nT nT rfl
 have call:∀G,Zj g1.size g1 G->Zd aw T 74 #[aa #[D t a.p.r,D t a.p.n,J p1 (H a.l) c1],J (Q ⟨bx,ox+k+1,O⟩) (N-1) (cw-k-1)] G fun v' h'=>BN G.size h' v' a bd/\Zj G.size G h':=fun G hG=>
  zn T G a.p p1 c1 a.l _ (N-1) (cw-k-1) bd (oA1.ts.Yz hG) (sbd.Yz hG) lbd nT nT nT
 have n8:(1:Int)<=(N:Int):=nT;have d3:¬cw-k=1:=nT;have q1:A<g1.size:=nT;have Zmu:∀(G:Hp) (b:Nat) (z w:List a4),(H z)=3->(H w)=3->w.all YD=true->G[b]? = Q (K z.toArray 104)->wr G ⟨b,0,O⟩ w=Q (G.setIfInBounds b (K w.toArray 104)):=by
  intro G b z w hz h3 h1 hx;rw[Yd (b:=b) hx 0 w,Z4 (by rw[h3,hz]),if_pos ⟨by rw[h3,hz];simp,h1⟩]
 simp -implicitDefEqProofs only[go_sem,f2,f5,f7,f8];refine VS.mono (N:=fun F' g'=>Zj g1.size g1 g'/\F' 2=ab (Q ⟨h.size+1,0,O⟩)/\F' 5=ab (Q ⟨h1.size,0,O⟩)/\F' 7=ab (Q ⟨A,0,O⟩)/\F' 8=D t k/\F' 10=D t N/\F' 14=ae (JC a bd).isSome/\∃(A':Nat) (P:Yn) (p m:_) (c:Nat),g1.size<=A'/\F' 13=ab (Q ⟨A',0,O⟩)/\g'[A']? = Q (K (Xy P (J p m c)).toArray 104)/\∀x,JC a bd=Q x->P=x.p/\Qv g1.size 132 Zv 8 g' (J p m c) x.l) ?_ ?_ (fun _ _ _ h=>h) (fun _ _ h=>h)
 .refine VS.w (g1.size) [] (.q 0 (.q 1 (.q 2 (.q 3 (.or 4 (.q 5 (.q 6 (.q 7 (.s 8 (.s 9 (.q 10 .nil)))))) (.s 8 (.s 4 (.q 5 (.q 6 (.q 7 (.s 9 (.q 10 .nil)))))))))))) mixed uj ?_;simp -implicitDefEqProofs only[go_sem,f2,f5,f7,f8,ra1,q1,n3,n4,n8,d3,S];refine⟨?_,?_⟩
  .refine (call g1 (Zj.refl _ _)).use ?_;rintro _ g2 ⟨⟨P,p2,m2,c2,rfl,h2x⟩,b6⟩;have s6:=b6.size;unfold Xy;simp -implicitDefEqProofs only[go_sem,f2,f5,f7,f8,b6];exact⟨_,_,_,_,_,s6,rfl,Zc,fun x hx=>⟨(h2x x hx).1,(h2x x hx).2.push _⟩⟩
  .refine (call (g1.push (K [D t 0,D t 0,J O 0 0].toArray 104)) (Zj.push (R _) _)).use ?_;rintro _ g2 ⟨⟨P,p2,m2,c2,rfl,h2x⟩,b6⟩;have B6:Zj g1.size g1 g2:=(Zj.push (R _) _).trans (b6.mono uK);have xA:=b6.get uK Zc;have yA:=Zmu g2 g1.size _ [D t P.r,D t P.n,J p2 m2 c2] rfl rfl rfl xA;have hz:=Za xA;unfold Xy;simp -implicitDefEqProofs only[go_sem,f2,f5,f7,f8,B6,yA,hz];exact⟨_,_,_,_,_,R _,rfl,ZQ xA,fun x hx=>⟨(h2x x hx).1,((h2x x hx).2.Z9 (b:=g1.size) uK _).mono uK⟩⟩
 rintro F' g' ⟨hB,f2,f5,f7,f8,f10,f14,A',P,p2,m2,c2,hA',f13,xA',hx'⟩;have sB:=hB.size;have hgG:Zj g.size g g':=b5.trans (hB.mono s5);obtain⟨rt2,qS,wf2,ZuL,bA2,xA2,oA2,sw2⟩:=fact g' hgG
 cases ui:JC a bd with
 | none=>
  have e:Y2 l a k=O:=by rw[Zft,ui];rfl
  rw[ui]at f14;simp -implicitDefEqProofs only[go_sem,f2,f5,f7,f8,f10,f14,qS,wf2,ZuL];exact done g' hgG e
 | some x=>
  obtain⟨rfl,ox2⟩:=hx' x ui;obtain⟨p3,c3,e3,_⟩:=ox2.open;simp only[Value.slice.injEq]at e3;obtain⟨rfl,rfl,rfl⟩:=e3;have e:Y2 l a k=Q (x,k+(N+4)):=by rw[Zft,ui];rfl
  have rA':rd g' ⟨A',0,O⟩ 3=Q [D t x.p.r,D t x.p.n,J p2 (H x.l) c2]:=Zz xA' rfl;have wA:=Zmu g' A _ [D t x.p.r,D t x.p.n,J p2 (H x.l) c2] rfl rfl rfl xA2;have zA:=Za xA2;have e4:(k:Int)+((N+4:Nat):Int)=((k+(N+4):Nat):Int):=nT;have lx:=BO ui;rw[ui]at f14;simp -implicitDefEqProofs only[go_sem,f2,f5,f7,f8,f10,f13,f14,rA',wA,zA,e2,e4];refine⟨⟨bA2.Zs (R _) _,f2,f5,f7,k+(N+4),x,p2,c2,nT,rfl,ZQ xA2,(ox2.Z9 nT _).mono nT,nT,fun r j hr=>Zms r j (.go e hr)⟩,?_⟩;simp only[vi,Zq,↓reduceIte,f8];omega
def zq(B:Nat)(h':Hp)(v':a4)(l:List Nat)(n:Int):Prop:=∃(r:UH) (k:Nat) (E:Int) (w:a4),v'=.tuple [aa [w,D t (if E=0 then (if (k:Int)<n then (k:Int) else n) else 0)].toArray,D t E].toArray/\Yx B 5 h' w (if E=0 then l.take k else [])/\k<=(H l) /\
 if YX l n then E=0/\Rec l JJ 0 r k else E=5/\r=JJ/\k=0
theorem qU(h:Hp)(v:a4)(n:Int)(l:List Nat)(s:Bs h v l)(Vk:PM v)(hl:(H l)<=140737488355328)(tk:Tk h):
  Zd aw T 54 #[aa [v,D t n].toArray] h fun v' h'=>zq h.size h' v' l n/\Zj h.size h h':=by
 obtain⟨p,c,rfl,_⟩:=s.open;have Vk:(H l)<=c:=Vk;refine Zd.Ld [_] Tryz.func54 ?_;unfold zq;simp -implicitDefEqProofs only[go_sem];obtain⟨h0,Ql⟩:=ZN ((h.push (K [J p (H l) c,D t n].toArray 99)).push (K [J O 0 0,D t 0].toArray 99):Hp);have b0:Zj h.size h h0:=by rw[Ql];exact ((Zj.refl _ _).add _).add _
 have s0:h0.size=h.size+2:=by rw[Ql];simp
 have t0:h0[h.size]? = Q (K [J p (H l) c,D t n].toArray 99):=by
  rw[Ql,W,if_neg uK,Zc]
 have z0:h0[h.size+1]? = Q (K [J O 0 0,D t 0].toArray 99):=by
  rw[Ql,W,if_pos uK]
 have e0:(h.push (K #[Value.slice p (H l) c,D t n] 99)).push (K #[Value.slice O 0 0,D t 0] 99)=h0:=Ql.symm;have e0':(h.push (K [Value.slice p (H l) c,D t n].toArray 99)).push (K [Value.slice O 0 0,D t 0].toArray 99)=h0:=Ql.symm
 first|rw[e0]|rw[e0']
 clear e0 e0' Ql;refine (Fu T h0 _ n l (s.Yz b0) hl (tk.Qx b0)).use ?_;rintro _ h1 ⟨⟨r,k,E,w1,rfl,o1,hk,hr,q⟩,b1⟩;have s1:=b1.size;obtain⟨p1,c1,rfl,_⟩:=o1.open;unfold Xy;obtain⟨h2,VZ⟩:=ZN (h1.push (K [D t r.p.r,D t r.p.n,J p1 (H r.l) c1].toArray 104):Hp);have b2:Zj h1.size h1 h2:=by rw[VZ];exact Zj.push (R _) _
 have s2:h2.size=h1.size+1:=by rw[VZ];simp
 have B2:Zj h.size h h2:=b0.trans ((b1.mono nT).trans (b2.mono nT));have t2:=b2.get nT (b1.get nT t0);have z2:=b2.get nT (b1.get nT z0);have y2:=Yd z2 0;have Hl:h.size+1<h2.size:=nT;have eh2:h1.push (K #[Value.int t r.p.r,D t r.p.n,J p1 (H r.l) c1] 104)=h2:=VZ.symm;clear VZ;by_cases ok:YX l n
 case neg=>
  have q0:=q;rw[if_neg ok]at q;obtain⟨rfl,rfl,rfl⟩:=q;have z1:=b1.get nT z0;have y1:=Yd z1 0;have Y4:¬h.size+1=h1.size:=nT;have zi:h.size+1<h1.size:=nT;have B1:Zj h.size h h1:=b0.trans (b1.mono nT);simp -implicitDefEqProofs only[go_sem,y1,Y4,zi];refine⟨⟨JJ,0,5,J O 0 0,rfl,Yx.nil _ _ _,bo _,q0⟩,?_⟩;exact (B1.Zs nT _).YU Ig _
 have q0:=q;rw[if_pos ok]at q;obtain⟨rfl,q⟩:=q;have l1:=ok.1;have r2:V.hc h2 ⟨h.size,0,O⟩=Q (J p (H l) c):=by rw[Zl t2];rfl
 have n2:V.hc h2 ⟨h.size,1,O⟩=Q (D t n):=by rw[Zl t2];rfl
 have k1:(0:Int)<=(k:Int):=nT;have k2:(k:Int)<=(c:Int):=nT;have q1:h.size<h2.size:=nT;simp -implicitDefEqProofs only[go_sem];rw[eh2];refine VS.w (h2.size) [10,11] (.q 0 (.q 1 (.q 2 (.q 3 (.q 5 (.q 6 (.q 7 (.q 8 (.s 4 (.q 9 (.w 10 (.w 11 .nil)))))))))))) mixed uj ?_;simp -implicitDefEqProofs only[go_sem,r2,n2,k1,k2,q1,S];refine (Oj T h2 _ (l.take k) ((s.Yz B2).Md hk c) aac).use ?_;rintro w3 h3 ⟨o3,b3⟩;obtain⟨p3,c3,rfl,_⟩:=o3.open;have s3:=b3.size;have z3:=b3.get nT z2;have pU:h.size+1<h3.size:=nT;have y3:=Yd z3 0;simp -implicitDefEqProofs only[go_sem,b3,y3,pU];refine⟨⟨r,k,0,_,rfl,?_,hk,q0⟩,(B2.trans (b3.mono nT)).Zs nT _⟩;exact (o3.Z9 nT _).mono nT
def X7(rc:List Nat):List Nat:=DO (UD (rc.getD 0 0)) (rc.drop 1)
def Xz(l:List Nat)(i:Nat):Int:=((XD l (4*i):Nat):Int)
def BP(PL:List Nat)(now:Int):Int:=Rq ((PL.take 22).getD 0 0:Nat) ((PL.take 22).getD 1 0:Nat) (XD (PL.take 22) 2:Nat) (Xz (PL.drop 22) 0) (Xz (PL.drop 22) 1) (Xz (PL.drop 22) 2) (Xz (PL.drop 22) 3) (Xz (PL.drop 22) 4) now
def mK(PL:List Nat)(X:Nat)(now:Int):Int:=if Xz (PL.drop 22) 0≠0/\Xz (PL.drop 22) 1≠(X:Nat) then 11 else BP PL now
def cI(PL:List Nat)(X:Nat)(now:Int):Int:=if Qq (PL.drop 22)≠0 then Qq (PL.drop 22) else mK PL X now
def cJ(PL:List Nat)(X:Nat)(now:Int):Int:=if QK Wo (PL.take 22)≠0 then QK Wo (PL.take 22) else cI PL X now
def cK(PL:List Nat)(X:Nat)(now:Int):Int:=if (H PL)≠42 then 3 else cJ PL X now
def DT(te:Int)(PL:List Nat)(X:Nat)(now:Int):Int:=if te≠0 then te else cK PL X now
def YK(rc:List Nat)(now:Int):Int:=
 if (H rc)=0 then 13 else if Qc (rc.getD 0 0:Nat)≠0 then Qc (rc.getD 0 0:Nat) else
 DT (Wn (UD (rc.getD 0 0)) 0 0 JP (rc.drop 1)) (X7 rc) (rc.getD 0 0) now
def cM(rc:List Nat)(now:Int):List a4:=if YK rc now=0 then Uy (Xz ((X7 rc).drop 22) 0) (Xz ((X7 rc).drop 22) 1) (Xz ((X7 rc).drop 22) 2) (Xz ((X7 rc).drop 22) 3) (Xz ((X7 rc).drop 22) 4) else Hh
theorem jv{key l:List Nat}(h:QK key l=0):BI key l=[D t (l.getD 0 0:Nat),D t (l.getD 1 0:Nat),D t (XD l 2:Nat)]:=by unfold BI;rw[if_pos h];rfl
theorem qW{key l:List Nat}(h:¬QK key l=0):BI key l=[D t 0,D t 0,D t 0]:=by unfold BI;rw[if_neg h];rfl
theorem qX{l:List Nat}(h:Qq l=0):GO l=[D t (Xz l 0),D t (Xz l 1),D t (Xz l 2),D t (Xz l 3),D t (Xz l 4)]:=by unfold GO;rw[if_pos h];rfl
theorem qY{l:List Nat}(h:¬Qq l=0):GO l=[D t 0,D t 0,D t 0,D t 0,D t 0]:=by unfold GO;rw[if_neg h];rfl
theorem U2{rc:List Nat}{now:Int}(h:¬YK rc now=0):cM rc now=[D t 0,D t 0,D t 0,D t 0,D t 0]:=by unfold cM;rw[if_neg h];rfl
theorem qZ{rc:List Nat}{now:Int}(h:YK rc now=0):cM rc now=[D t (Xz ((X7 rc).drop 22) 0),D t (Xz ((X7 rc).drop 22) 1),D t (Xz ((X7 rc).drop 22) 2),D t (Xz ((X7 rc).drop 22) 3),D t (Xz ((X7 rc).drop 22) 4)]:=by unfold cM;rw[if_pos h];rfl
set_option maxHeartbeats 2000000 in
theorem zr(h:Hp)(v:a4)(rc:List Nat)(now:Int)(s:Bs h v rc)(Vk:PM v)(hrl:(H rc)<=140737488355328)(tk:Tk h)(tn:Aw 1 niv PG h):
  Zd aw T 64 #[v,D t now] h fun v' h'=>v'=.tuple [aa (cM rc now).toArray,D t (YK rc now)].toArray/\Zj h.size h h':=by
 obtain⟨p,c,rfl,_⟩:=s.open;have lJ:(H rc)<=c:=Vk;refine Zd.Ld [_,_] Tryz.func64 ?_;simp -implicitDefEqProofs only[go_sem];obtain⟨h0,Ql⟩:=ZN (h.push (K [D t 0,D t 0,D t 0,D t 0,D t 0].toArray 24):Hp);have b0:Zj h.size h h0:=by rw[Ql];exact (Zj.refl _ _).add _
 have s0:h0.size=h.size+1:=by rw[Ql];simp
 have z0:h0[h.size]? = Q (K [D t 0,D t 0,D t 0,D t 0,D t 0].toArray 24):=by rw[Ql];exact Zc
 have e0:h.push (K #[Value.int t 0,D t 0,D t 0,D t 0,D t 0] 24)=h0:=Ql.symm;have e0':h.push (K [Value.int t 0,D t 0,D t 0,D t 0,D t 0].toArray 24)=h0:=Ql.symm
 first|rw[e0]|rw[e0']
 clear e0 e0' Ql;have fin:∀(G:Hp) (w:List a4),(H w)=5->w.all YD=true->G[h.size]? = Q (K [D t 0,D t 0,D t 0,D t 0,D t 0].toArray 24)->wr G ⟨h.size,0,O⟩ w=Q (G.setIfInBounds h.size (K w.toArray 24)):=by
  intro G w h3 h1 hx;rw[Yd (b:=h.size) hx 0 w,Z4 (by rw[h3];rfl),if_pos ⟨by rw[h3];simp,h1⟩]
 by_cases l0:(H rc)=0
 case pos=>
  have l0':((H rc):Int)=0:=by omega
  have ee:=show YK rc now=13 by unfold YK;rw[if_pos l0]
  rw[U2 (by rw[ee];exact (by decide)),ee];have yz:=fin h0 [D t 0,D t 0,D t 0,D t 0,D t 0] rfl rfl z0;have hz:=Za z0;simp -implicitDefEqProofs only[go_sem,l0',yz,hz]
  try exact (b0).Zs (R _) _
 have l0':¬((H rc):Int)=0:=by omega
 have n0:(0:Int)<((H rc):Int):=by omega
 have n1:(1:Int)<=((H rc):Int):=by omega
 obtain⟨q',d',hv,hh⟩:=(s.Yz b0).VJ;simp only[Value.slice.injEq,true_and]at hv;obtain⟨rfl,rfl⟩:=hv;obtain⟨bb,oo,rfl,T5,XI⟩:=hh (by intro e;subst e;simp at l0);have x0:=XI 0 (by omega);rw[bf]at x0;have O3:=Z3 s.byte 0;obtain⟨X,hX⟩:=ZN (rc.getD 0 0);rw[<-hX]at x0 O3;obtain⟨PL,hPL⟩:=ZN (DO (UD X) (rc.drop 1));obtain⟨te,hte⟩:=ZN (Wn (UD X) 0 0 JP (rc.drop 1));have ePL:X7 rc=PL:=by rw[hPL,hX];rfl
 have E00:YK rc now=if Qc (X:Nat)≠0 then Qc (X:Nat) else DT te PL X now:=by
  unfold YK;rw[if_neg l0,<-hX,<-hte,ePL]
 simp -implicitDefEqProofs only[go_sem,l0',n0,x0];refine (Fr T h0 _ (tk.Qx b0)).use ?_;rintro _ h1 ⟨⟨w1,rfl,k1,o1,f1⟩,b1⟩;have B1:=b0.trans (b1.mono b0.size);have s1:=b1.size;have z1:=b1.get (by omega) z0;by_cases ke:Qc (X:Nat)=0
 case neg=>
  generalize Qc (X:Nat)=KE at *;have ee:=show YK rc now=KE by rw[E00,if_pos ke]
  rw[U2 (by rw[ee];exact ke),ee];have yz:=fin h1 [D t 0,D t 0,D t 0,D t 0,D t 0] rfl rfl z1;have hz:=Za z1;simp -implicitDefEqProofs only[go_sem,ke,yz,hz]
  try exact (B1).Zs (R _) _
 have E0:YK rc now=DT te PL X now:=by rw[E00,if_neg (fun hn=>hn ke)]
 rw[ke,if_pos rfl,S]at o1;rw[ke];have x7:X<=7:=by unfold Qc at ke;split at ke<;>omega
 obtain⟨p1,c1,rfl,WE⟩:=o1.open;have lk:=OE X;obtain⟨P1,hP1⟩:=ZN (if c=1 then Q (⟨bb,oo,O⟩:Addr) else Q ⟨bb,oo+1,O⟩);have sD:Bs h1 (J P1 ((H rc)-1) (c-1)) (rc.drop 1):=by
  have sb1:=(s.Yz b0).Yz b1;by_cases hc:c=1
  .have xM:(H rc)=1:=by omega
   have hd:rc.drop 1=[]:=List.drop_eq_nil_of_le (by omega);rw[hd,xM,hc];exact⟨(UK.EH 0 0 1 h1 P1).sl,fun x hx=>by cases hx⟩
  .rw[hP1,if_neg hc];exact RY sb1 (k:=1) (by omega) rfl _
 have ZuR:PM (J P1 ((H rc)-1) (c-1)):=by show (H rc)-1<=c-1;omega
 have htk:Zd aw T 79 #[aa #[J p1 (UD X).length c1,D t 0,D t 0,ae false,ae false,ae false,ae false,ae false,ae false,ae false,ae false],J P1 ((H rc)-1) (c-1)] h1 fun v' h'=>BF h1.size h' v' (UD X) 0 0 JP (rc.drop 1)/\Zj h1.size h1 h':=bL T h1 _ _ (UD X) (rc.drop 1) 0 0 JP rfl o1 sD k1 ZuR;simp -implicitDefEqProofs only[go_sem,n1]
 try rw[<-hP1]
 refine htk.use ?_;rintro _ h2 ⟨⟨cw,w2,rfl,⟨w3,rfl,o3⟩,o2⟩,b2⟩;rw[<-hte]at o2 o3 ⊢;rw[<-hPL]at o2;have B2:=B1.trans (b2.mono B1.size);have s2:=b2.size;have z2:=b2.get (by omega) z1;obtain⟨CC,hCC⟩:=ZN (Yb w3 (if te=0 then 0 else 0) (if te=0 then max 0 (((VD (rc.drop 1):Nat):Int)+1) else 0) (if te=0 then IJ 0 JP (VD (rc.drop 1)) else JP));obtain⟨p3,c3,rfl,_⟩:=o3.open;have lsn:(if te=0 then IJ 0 JP (VD (rc.drop 1)) else JP).length=8:=by
  split
  .exact SD _ _
  .rfl
 have hCl:(H CC)=11:=by rw[hCC];exact YO _ _ _ _ lsn
 have hCo:CC.all YD=true:=by rw[hCC];exact UY _ _ _
 have hCp:Y8 [Value.slice O 0 0,D t 0,D t 0,ae false,ae false,ae false,ae false,ae false,ae false,ae false,ae false] 0 CC=CC:=Z4 (by rw[hCl];rfl);have Zhz:(H CC)<=11:=by omega
 rw[<-hCC];obtain⟨h3,Fq⟩:=ZN (h2.push (K CC.toArray 65):Hp);have b3:Zj h2.size h2 h3:=by rw[Fq];exact Zj.push (R _) _
 have s3:h3.size=h2.size+1:=by rw[Fq];simp
 have z3:=b3.get (by omega) z2;have B3:=B2.trans (b3.mono B2.size);have o23:=o2.Yz b3 (R _);obtain⟨p2,c2,rfl,Es⟩:=o2.open;have yz2:=fin h2 [D t 0,D t 0,D t 0,D t 0,D t 0] rfl rfl z2;have Zhw:¬h.size=h2.size:=by omega
 have Hl:h.size<h2.size:=by omega
 by_cases te0:te=0
 case neg=>
  have ee:YK rc now=te:=by rw[E0];unfold DT;rw[if_pos te0]
  rw[U2 (by rw[ee];exact te0),ee];simp -implicitDefEqProofs only[go_sem,hCl,hCo,hCp,Zhz,te0,yz2,Zhw,Hl]
  try exact (B2.Zs (R _) _).YU (by simp;omega) _
 have E1:YK rc now=cK PL X now:=by rw[E0];unfold DT;rw[if_neg (fun hn=>hn te0)]
 rw[if_pos te0]at o23 Es
 try simp only[if_pos te0]
 by_cases l42:(H PL)=42
 case neg=>
  have Zdu:¬((H PL):Int)=42:=by omega
  have ee:YK rc now=3:=by rw[E1];unfold cK;rw[if_pos l42]
  rw[U2 (by rw[ee];decide),ee];simp -implicitDefEqProofs only[go_sem,hCl,hCo,hCp,Zhz,te0,Zdu,yz2,Zhw,Hl]
  try exact (B2.Zs (R _) _).YU (by simp;omega) _
 have Zdu:((H PL):Int)=42:=by omega
 have E2:YK rc now=cJ PL X now:=by rw[E1];unfold cK;rw[if_neg (fun hn=>hn l42)]
 simp -implicitDefEqProofs only[go_sem,hCl,hCo,hCp,Zhz,te0,Zdu];rw[<-Fq];clear Fq hCC o2 o3 hte;have n22:(22:Int)<=(c2:Int):=by omega
 have sPL:=o23.bs;have sT:Bs h3 (J p2 22 c2) (PL.take 22):=sPL.Md (by omega) c2;have cT:PM (J p2 22 c2):=by show 22<=c2;omega
 obtain⟨PE,hPE⟩:=ZN (QK Wo (PL.take 22));obtain⟨tc,tr,tu,hT,ZuW⟩:∃tc tr tu:Int,BI Wo (PL.take 22)=[D t tc,D t tr,D t tu]/\(PE=0->tc=((PL.take 22).getD 0 0:Nat)/\tr=((PL.take 22).getD 1 0:Nat)/\tu=(XD (PL.take 22) 2:Nat)):=by
  rw[hPE];by_cases q:QK Wo (PL.take 22)=0
  .exact⟨_,_,_,jv q,fun _=>⟨rfl,rfl,rfl⟩⟩
  .exact⟨_,_,_,qW q,fun hn=>(q hn).elim⟩
 have tk3:=tk.Qx B3
 try simp -implicitDefEqProofs only[go_sem,Zdu]
 refine VS.mono (N:=fun F' g'=>Zj h3.size h3 g'/\F' 0=J (Q ⟨bb,oo,O⟩) (H rc) c/\F' 1=D t now/\F' 4=ab (Q ⟨h.size,0,O⟩)/\F' 9=J p2 (H PL) c2/\F' 7=D t PE/\∃A,h3.size<=A/\F' 10=ab (Q ⟨A,0,O⟩)/\g'[A]? = Q (K [D t tc,D t tr,D t tu].toArray 31)) ?_ ?_ (fun _ _ _ h=>h) (fun _ _ h=>h)
 .refine VS.w (h3.size) [] (.q 1 (.q 2 (.or 0 (.or 3 (.q 4 (.q 5 (.q 6 (.s 7 (.s 8 (.q 9 .nil)))))) (.s 7 (.s 3 (.q 4 (.q 5 (.q 6 (.s 8 (.q 9 .nil)))))))) (.s 7 (.s 0 (.s 3 (.q 4 (.q 5 (.q 6 (.s 8 (.q 9 .nil))))))))))) mixed (by kernel_rfl) ?_;simp -implicitDefEqProofs only[go_sem,n22];have zt:∀(G:Hp) (k:Nat) (w:List a4),(H w)=3->w.all YD=true->G[k]? = Q (K [D t 0,D t 0,D t 0].toArray 31)->wr G ⟨k,0,O⟩ w=Q (G.setIfInBounds k (K w.toArray 31)):=by
   intro G k w h3 h1 hx;rw[Yd (b:=k) hx 0 w,Z4 (by rw[h3];rfl),if_pos ⟨by rw[h3];simp,h1⟩]
  refine⟨?_,?_⟩
  .refine (KJ T h3 tk3).use ?_;rintro w4 h4 ⟨⟨k4,o4⟩,b4⟩;have s4:=b4.size;simp -implicitDefEqProofs only[go_sem,b4,n22];refine⟨?_,?_⟩
   .refine (Fl T h4 _ _ Wo (PL.take 22) o4 (sT.Yz b4) cT (tk3.Qx b4)).use ?_;rintro _ h5 ⟨rfl,b5⟩;have s5:=b5.size;have zu:Zj h3.size h3 h5:=b4.trans (b5.mono s4);rw[hT,<-hPE];simp -implicitDefEqProofs only[go_sem,zu];exact⟨_,by omega,rfl,Zc⟩
   .have bp:Zj h4.size h4 (h4.push (K [D t 0,D t 0,D t 0].toArray 31)):=Zj.push (R _) _;have bp3:Zj h3.size h3 (h4.push (K [D t 0,D t 0,D t 0].toArray 31)):=b4.trans (bp.mono s4)
    first|refine⟨bp3,?_⟩|skip
    refine (Fl T (h4.push (K [D t 0,D t 0,D t 0].toArray 31)) _ _ Wo (PL.take 22) (o4.Yz bp) ((sT.Yz b4).Yz bp) cT ((tk3.Qx b4).Qx bp)).use ?_;rintro _ h5 ⟨rfl,b5⟩;have s5:=b5.size;have zu:Zj h3.size h3 h5:=bp3.trans (b5.mono (by simp;omega));have xA:=b5.get (by simp) Zc;have yA:=zt h5 h4.size [D t tc,D t tr,D t tu] rfl rfl xA;have hz:=Za xA;rw[hT,<-hPE];simp -implicitDefEqProofs only[go_sem,zu,yA,hz]
    first
     | exact⟨zu.Zs (by omega) _,zu.Zs (by omega) _,_,by omega,rfl,ZQ xA⟩
     | exact⟨zu.Zs (by omega) _,_,by omega,rfl,ZQ xA⟩
     | exact⟨_,by omega,rfl,ZQ xA⟩
  .have bp3:Zj h3.size h3 (h3.push (K [D t 0,D t 0,D t 0].toArray 31)):=Zj.push (R _) _
   first|refine⟨bp3,?_⟩|skip
   refine (KJ T (h3.push (K [D t 0,D t 0,D t 0].toArray 31)) (tk3.Qx bp3)).use ?_;rintro w4 h4 ⟨⟨k4,o4⟩,b4⟩;have s4:=b4.size;have fE:Zj h3.size h3 h4:=bp3.trans (b4.mono (by simp));simp -implicitDefEqProofs only[go_sem,fE,n22];refine (Fl T h4 _ _ Wo (PL.take 22) o4 (sT.Yz fE) cT (tk3.Qx fE)).use ?_;rintro _ h5 ⟨rfl,b5⟩;have s5:=b5.size;have zu:Zj h3.size h3 h5:=fE.trans (b5.mono fE.size);have xA:=b5.get (by simp at s4;omega) (b4.get (by simp) Zc);have yA:=zt h5 h3.size [D t tc,D t tr,D t tu] rfl rfl xA;have hz:=Za xA;rw[hT,<-hPE];simp -implicitDefEqProofs only[go_sem,zu,yA,hz]
   first
    | exact⟨zu.Zs (by omega) _,zu.Zs (by omega) _,_,by omega,rfl,ZQ xA⟩
    | exact⟨zu.Zs (by omega) _,_,by omega,rfl,ZQ xA⟩
    | exact⟨_,by omega,rfl,ZQ xA⟩
 rintro F h6 ⟨b6,f0,f1,f4,f9,f7,A,hA3,f10,t6⟩;have hA6:=Za t6;have z6:=b6.get (by omega) z3;have B6:=B3.trans (b6.mono B3.size);by_cases pe:PE=0
 case neg=>
  have ee:=show YK rc now=PE by rw[E2];unfold cJ;rw[<-hPE,if_pos pe]
  rw[U2 (by rw[ee];exact pe),ee];have yz:=fin h6 [D t 0,D t 0,D t 0,D t 0,D t 0] rfl rfl z6;have hz:=Za z6;simp -implicitDefEqProofs only[go_sem,f0,f1,f4,f9,f7,f10,pe,yz,hz]
  try exact (B6).Zs (R _) _
 have E3:YK rc now=cI PL X now:=by rw[E2];unfold cJ;rw[<-hPE,if_neg (fun hn=>hn pe)]
 obtain⟨rfl,rfl,rfl⟩:=ZuW pe;have n42:(22:Int)<=((H PL):Int):=by omega
 obtain⟨q2,d2,bP,VZ⟩:=sPL.VJ;simp only[Value.slice.injEq,true_and]at bP;obtain⟨rfl,rfl⟩:=bP;obtain⟨b22,o22,rfl,_,_⟩:=VZ (by intro e;rw[e]at l42;cases l42);have d22:¬c2=22:=by omega
 have sB:=RY (sPL.Yz b6) (k:=22) (by omega) rfl (c2-22);simp -implicitDefEqProofs only[go_sem,f0,f1,f4,f9,f7,f10,pe,n42,d22];refine (Dz T h6 _ (PL.drop 22) sB (by rw[am];omega)).use ?_;rintro _ h7 ⟨rfl,b7⟩;have s7:=b7.size;have z7:=b7.get (by omega) z6;have t7:=b7.get hA6 t6;have B7:=B6.trans (b7.mono B6.size);obtain⟨DE,hDE⟩:=ZN (Qq (PL.drop 22));have Y4:¬h.size=h7.size:=by omega
 have Fi:h.size<h7.size:=by omega
 by_cases de:DE=0
 case neg=>
  have ee:YK rc now=DE:=by rw[E3];unfold cI;rw[<-hDE,if_pos de]
  rw[U2 (by rw[ee];exact de),ee,qY (by rw[<-hDE];exact de),<-hDE];have yz:=fin h7 [D t 0,D t 0,D t 0,D t 0,D t 0] rfl rfl z7;simp -implicitDefEqProofs only[go_sem,f0,f1,f4,f9,f7,f10,de,yz,Y4,Fi]
  try exact (B7.Zs (R _) _).YU (by simp;omega) _
 have E4:YK rc now=mK PL X now:=by rw[E3];unfold cI;rw[<-hDE,if_neg (fun hn=>hn de)]
 rw[qX (by rw[<-hDE];exact de),<-hDE,de];have eA:BP PL now=Rq ((PL.take 22).getD 0 0:Nat) ((PL.take 22).getD 1 0:Nat) (XD (PL.take 22) 2:Nat) (Xz (PL.drop 22) 0) (Xz (PL.drop 22) 1) (Xz (PL.drop 22) 2) (Xz (PL.drop 22) 3) (Xz (PL.drop 22) 4) now:=rfl;have eC:YK rc now=0->cM rc now=[D t (Xz (PL.drop 22) 0),D t (Xz (PL.drop 22) 1),D t (Xz (PL.drop 22) 2),D t (Xz (PL.drop 22) 3),D t (Xz (PL.drop 22) 4)]:=fun e=>by rw[qZ e,ePL]
 have e4:mK PL X now=if Xz (PL.drop 22) 0≠0/\Xz (PL.drop 22) 1≠(X:Nat) then 11 else BP PL now:=rfl
 generalize Xz (PL.drop 22) 0=y0 at *;generalize Xz (PL.drop 22) 1=y1 at *;generalize Xz (PL.drop 22) 2=y2 at *;generalize Xz (PL.drop 22) 3=y3 at *;generalize Xz (PL.drop 22) 4=y4 at *;obtain⟨h8,hh8⟩:=ZN (h7.push (K [D t y0,D t y1,D t y2,D t y3,D t y4].toArray 24):Hp);have e8:h7.push (K #[Value.int t y0,D t y1,D t y2,D t y3,D t y4] 24)=h8:=hh8.symm
 try simp -implicitDefEqProofs only[go_sem,f0,f1,f4,f9,f7,f10,de]
 rw[e8];have b8:Zj h7.size h7 h8:=by rw[hh8];exact Zj.push (R _) _
 have s8:h8.size=h7.size+1:=by rw[hh8];simp
 have c8:h8[h7.size]? = Q (K [D t y0,D t y1,D t y2,D t y3,D t y4].toArray 24):=by rw[hh8];exact Zc
 clear e8 hh8;have z8:=b8.get (by omega) z7;have t8:=b8.get (by omega) t7;have B8:=B7.trans (b8.mono B7.size);have k80:V.hc h8 ⟨h7.size,0,O⟩=Q (D t y0):=by rw[Zl c8];rfl
 have k81:V.hc h8 ⟨h7.size,1,O⟩=Q (D t y1):=by rw[Zl c8];rfl
 have rT8:rd h8 ⟨A,0,O⟩ 3=_:=Zz t8 rfl;have rC8:rd h8 ⟨h7.size,0,O⟩ 5=_:=Zz c8 rfl;have b18:Zj h1.size h1 h8:=(b2.trans ((b3.mono s2).trans ((b6.mono (by omega)).trans ((b7.mono (by omega)).trans (b8.mono (by omega))))))
 have x8:V.hc h8 ⟨bb,oo,O⟩=Q (D .u8 (X:Nat)):=by
  rw[b18.hc (by show bb<h1.size;omega),b1.hc (by exact T5)];exact x0
 have yz8:=fin h8 [D t 0,D t 0,D t 0,D t 0,D t 0] rfl rfl z8;have yc8:=fin h8 [D t y0,D t y1,D t y2,D t y3,D t y4] rfl rfl z8;have hz8:=Za z8;refine VS.mono (N:=fun F' g'=>g'=h8/\F' 0=J (Q ⟨bb,oo,O⟩) (H rc) c/\F' 1=D t now/\F' 4=ab (Q ⟨h.size,0,O⟩)/\F' 10=ab (Q ⟨A,0,O⟩)/\F' 11=ab (Q ⟨h7.size,0,O⟩)/\F' 78=ae (decide (y0≠0/\y1≠(X:Nat)))) ?_ ?_ (fun _ _ _ h=>h) (fun _ _ h=>h)
 .refine VS.q mixed (by kernel_rfl) ?_;by_cases w0:y0=0
  .have hd:decide (y0≠0/\y1≠(X:Nat))=false:=decide_eq_false (fun hn=>hn.1 w0);rw[hd];simp -implicitDefEqProofs only[go_sem,f0,f1,f4,f9,f7,f10,k80,w0]
  .by_cases w1:y1=(X:Nat)
   .have hd:decide (y0≠0/\y1≠(X:Nat))=false:=decide_eq_false (fun hn=>hn.2 w1);rw[hd];simp -implicitDefEqProofs only[go_sem,f0,f1,f4,f9,f7,f10,k80,k81,x8,n0,w0,w1]
   .have hd:decide (y0≠0/\y1≠(X:Nat))=true:=decide_eq_true ⟨w0,w1⟩;rw[hd];simp -implicitDefEqProofs only[go_sem,f0,f1,f4,f9,f7,f10,k80,k81,x8,n0,w0,w1]
 rintro F' g8 ⟨E7,g0,g1,g4,gt,gc,gb⟩;rw[E7];clear E7;by_cases wr':y0≠0/\y1≠(X:Nat)
 case pos=>
  have ee:YK rc now=11:=by rw[E4,e4,if_pos wr']
  rw[decide_eq_true wr']at gb;rw[U2 (by rw[ee];decide),ee];simp -implicitDefEqProofs only[go_sem,g4,gb,yz8,hz8]
  try exact B8.Zs (R _) _
 have E5:YK rc now=BP PL now:=by rw[E4,e4,if_neg wr']
 rw[decide_eq_false wr']at gb;have hal:Zd aw T 82 #[aa #[D t ((PL.take 22).getD 0 0:Nat),D t ((PL.take 22).getD 1 0:Nat),D t (XD (PL.take 22) 2:Nat)],aa #[D t y0,D t y1,D t y2,D t y3,D t y4],D t now] h8 fun v' h'=>v'=D t (BP PL now)/\Zj h8.size h8 h':=by
  rw[eA];exact qC T h8 _ _ _ y0 y1 y2 y3 y4 now (tn.Qx B8)
 simp -implicitDefEqProofs only[go_sem,g0,g1,g4,gt,gc,gb,rT8,rC8];refine hal.use ?_;rintro _ h9 ⟨rfl,b9⟩;have s9:=b9.size;have z9:=b9.get (by omega) z8;have c9:=b9.get (by omega) c8;have rC9:rd h9 ⟨h7.size,0,O⟩ 5=_:=Zz c9 rfl;have B9:=B8.trans (b9.mono B8.size);have yz9:=fin h9 [D t 0,D t 0,D t 0,D t 0,D t 0] rfl rfl z9;have yc9:=fin h9 [D t y0,D t y1,D t y2,D t y3,D t y4] rfl rfl z9;have hz9:=Za z9;generalize BP PL now=OA at *;by_cases oa:OA=0
 .have ee:YK rc now=0:=by rw[E5,oa]
  rw[eC ee,ee];simp -implicitDefEqProofs only[go_sem,g4,gc,oa,rC9,yc9,hz9]
  try exact B9.Zs (R _) _
 .rw[U2 (by rw[E5];exact oa),E5];simp -implicitDefEqProofs only[go_sem,g4,gc,oa,yz9,hz9]
  try exact B9.Zs (R _) _
end Go.Proofs.YtdapjaalaomghaaGreatDoor
