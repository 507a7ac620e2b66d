/- Part Mix. -/
import Derived.Test.YtdpjmhgbmhjniaaGreatDoorTape
import Derived.Test.YtdpjmhgbmhjniaaGreatDoorW12
import Derived.Test.YtdpjmhgbmhjniaaGreatDoorShaq
open Go.Value renaming int→D,slice→H
open Go.IntKind renaming i64→y
open Go.Obj renaming cells→K
open Go.Proofs.Tryz renaming prog→Y
open List renaming length→t,replicate→J,append_nil→M,take_of_length_le→O,drop_of_length_le→Q
open Nat renaming le_refl→N
open Option renaming some→R,none→S
open Array renaming getElem?_push→U
namespace Go.Proofs.YtdpjmhgbmhjniaaGreatDoor
open Go Go.V
set_option linter.all false
set_option maxRecDepth 100000
def bF(B:Nat)(h':Hp)(v':Value)(l:List Nat)(n:Int):Prop:=
 if (t l)<=100000/\0<=n/\n<=(t l) then ∃w,v'=.tuple [.agg [w,D y (t l)].toArray,D y 0].toArray/\Yd B 5 h' w l
 else v'=.tuple [.agg [H S 0 0,D y 0].toArray,D y 5].toArray
theorem xH(T:World)(h:Hp)(v:Value)(n:Int)(l:List Nat)(s:Bs h v l)(hl:(t l)<=140737488355328):
  Zc Y T 97 #[.agg [v,D y n].toArray] h fun v' h'=>Zf h.size h h'/\bF h.size h' v' l n:=by
 obtain⟨p,c,rfl,UX⟩:=s.open;refine Zc.Y8 [_] Tryz.func97 ?_;simp +contextual -implicitDefEqProofs only[go_sem];refine (QG T _ _ n l (s.Yb (((Zf.refl _ _).add _).add _)) hl).use ?_;rintro v1 h1 ⟨b1,o1⟩;have z1:h.size+1<h1.size:=by have:=b1.size;simp at this;omega
 have r1:=b1.get (k:=h.size+1) Dq (by rw[U,if_pos Dq]);have w1:=Z2 r1;have bb:Zf h.size h h1:=((Zf.refl _ _).add _).add _ |>.trans (b1.mono L6)
 unfold bF;by_cases q:(t l)<=100000/\0<=n/\n<=(t l)
 .rw[if_pos q]at o1;obtain⟨w,rfl,o1⟩:=o1;obtain⟨p1,c1,rfl,_⟩:=o1.bs.open;simp +contextual -implicitDefEqProofs only[go_sem,w1,z1];refine⟨(bb.Zj gX _).add _,_,rfl,?_⟩;exact ((o1.Z3 Dq _).push _).mono L6
 .rw[if_neg q]at o1;subst o1;simp +contextual -implicitDefEqProofs only[go_sem,w1,z1];exact (bb.Zj gX _).add _
def JE(l:List Nat)(n k:Int):Int:=n+(if ((t l):Int)-n<k then ((t l):Int)-n else k)
def SV(l:List Nat)(n k:Int):List Nat × Int × Int:=
 if (t l)<=100000/\0<=n/\n<=(t l) then (if k<0 then ([],0,2) else (l.take (JE l n k).toNat,JE l n k,0)) else ([],0,5)
def fI(B:Nat)(h':Hp)(v':Value)(r:List Nat × Int × Int):Prop:=
 ∃p c L Z E,r=(L,Z,E)/\v'=.tuple [.agg [H p (t L) c,D y Z].toArray,D y E].toArray/\Bs h' (H p (t L) c) L/\(t L)<=c/\∀b,ZJ (H p (t L) c)=R b->B<=b/\b<h'.size
theorem qf(T:World)(h:Hp)(v:Value)(n k:Int)(l:List Nat)(s:Bs h v l)(hl:(t l)<=140737488355328):
  Zc Y T 73 #[.agg [v,D y n].toArray,D y k] h fun v' h'=>Zf h.size h h'/\fI h.size h' v' (SV l n k):=by
 obtain⟨p,c,rfl,UX⟩:=s.open;refine Zc.Y8 [_,_] Tryz.func73 ?_;simp +contextual -implicitDefEqProofs only[go_sem];refine (QG T _ _ n l (s.Yb (((Zf.refl _ _).add _).add _)) hl).use ?_;rintro v1 h1 ⟨b1,o1⟩;have z1:h.size+1<h1.size:=by have:=b1.size;simp at this;omega
 have r1:=b1.get (k:=h.size+1) Dq (by rw[U,if_pos Dq]);have w1:=Z2 r1;have bb:Zf h.size h h1:=((Zf.refl _ _).add _).add _ |>.trans (b1.mono L6)
 unfold SV;by_cases q:(t l)<=100000/\0<=n/\n<=(t l)
 .rw[if_pos q]at o1;obtain⟨w,rfl,o1⟩:=o1;obtain⟨p1,c1,rfl,g1⟩:=o1.open;by_cases q1:k<0
  .simp +contextual -implicitDefEqProofs only[go_sem,w1,z1,q1];exact⟨(bb.Zj gX _).add _,S,0,[],_,_,rfl,rfl,(Yd.nil 0 5 _).bs,N _,fun b hb=>by simp[ZJ]at hb⟩
  .have e1:0<=JE l n k/\JE l n k<=(t l):=by unfold JE;split<;>omega
   have e2:(n+(if ((t l):Int)-n<k then ((t l):Int)-n else k))=JE l n k:=rfl;have e3:((JE l n k).toNat:Int)=JE l n k:=gX;have e4:(l.take (JE l n k).toNat).length=(JE l n k).toNat:=aac;simp +contextual -implicitDefEqProofs only[go_sem,w1,z1,q1,e2,e3];refine⟨(bb.Zj gX _).add _,p1,(JE l n k).toNat,_,_,_,rfl,by rw[e4],?_⟩;rw[e4];have o2:=(o1.Z3 (b:=h.size+1) (o:=K [H p1 (t l) c1,D y n].toArray 114) Dq).push (K [H S 0 0,D y 0].toArray 114);refine⟨(((o1.Z3 Dq _).push _).bs).Pb gX _,N _,fun b hb=>?_⟩;have KA:ZJ (H p1 (t l) c1)=R b:=by
    cases p1 with
    | none=>simp[ZJ]at hb
    | some A=>
     by_cases z:(JE l n k).toNat=0
     .rw[z]at hb;simp[ZJ]at hb
     .have At:c1≠0:=by have:=g1;omega
      simp[ZJ,z]at hb;simp[ZJ,At,hb]
   have h1b:=o1.Zy.ZQ b KA;have h2b:=o1.Zy.lt b KA;simp only[Array.size_push,Array.size_setIfInBounds];simp at h1b;omega
 .rw[if_neg q]at o1;subst o1;simp +contextual -implicitDefEqProofs only[go_sem,w1,z1];exact⟨(bb.Zj gX _).add _,S,0,[],_,_,rfl,rfl,(Yd.nil 0 5 _).bs,N _,fun b hb=>by simp[ZJ]at hb⟩
def VG(key:List Nat)(k:Int)(Zz:List Nat)(n:Nat):Int:=if X2 key k Zz≠0 then X2 key k Zz else if 2000<n then 1 else 0
def ZcS(key:List Nat)(k:Nat)(Zz data:List Nat)(i:Nat):Nat:=data.getD i 0 ^^^ (XO key (k+i/64) Zz).getD (i%64) 0
def Nb(key:List Nat)(k:Nat)(Zz data:List Nat):List Nat:=(List.range (t data)).map (ZcS key k Zz data)
theorem M7(key:List Nat)(k:Nat)(Zz:List Nat)(i:Nat):(XO key k Zz).getD i 0<256:=ZT (Ix _ _) i
theorem qg{a b:Nat}(ha:a<256)(hb:b<256):a ^^^ b<256:=Nat.xor_lt_two_pow (n:=8) ha hb
theorem Vo(key:List Nat)(k:Nat)(Zz data:List Nat):(Nb key k Zz data).length=(t data):=by simp[Nb]
theorem jv{key:List Nat}{k:Nat}{Zz data:List Nat}(hd:∀x∈data,x<256):∀x∈Nb key k Zz data,x<256:=by
 intro x hx;obtain⟨i,_,rfl⟩:=List.mem_map.1 hx;exact qg (ZT hd _) (M7 _ _ _ _)
theorem jw{key:List Nat}{k:Nat}{Zz data:List Nat}{i:Nat}(hi:i<(t data)):(Nb key k Zz data).getD i 0=ZcS key k Zz data i:=Iw _ hi
def qh(B:Nat)(h':Hp)(v':Value)(key:List Nat)(k:Int)(Zz data:List Nat):Prop:=∃w,v'=.tuple [w,D y (VG key k Zz (t data))].toArray/\Yd B 5 h' w (if VG key k Zz (t data)=0 then Nb key k.toNat Zz data else [])
theorem Gf{key:List Nat}{k:Int}{Zz:List Nat}(e:X2 key k Zz=0):(t key)=32/\(t Zz)=12/\0<=k/\k<=1073741824:=by
 unfold X2 at e
 repeat' split at e
 all_goals first|omega|cases e
theorem bI(n:Nat):Jl n [Value.int .u8 0]=(J n 0).map bv:=by
 induction n with
 | zero=>rfl
 | succ n ih=>rw[Jl,ih];rfl
theorem qi(T:World)(h:Hp)(v u d:Value)(key Zz data:List Nat)(k:Int)(sk:Bs h v key)(sn:Bs h u Zz)(sd:Bs h d data)(ck:Sn v)(cn:Sn u):
  Zc Y T 79 #[v,D y k,u,d] h fun v' h'=>qh h.size h' v' key k Zz data/\Zf h.size h h':=by
 obtain⟨p,c,rfl,_⟩:=sk.open;obtain⟨q,cn',rfl,_⟩:=sn.open;obtain⟨pd,cd,rfl,hcd⟩:=sd.UM;refine Zc.Y8 [_,_,_,_] Tryz.func79 ?_;unfold qh;simp +contextual -implicitDefEqProofs only[go_sem];refine (M3 T _ _ _ _ _ _ _ _).pure ?_;rw[show (if (t key)≠32\/(t Zz)≠12 then (1:Int) else if k<0\/1073741824<k then 2 else 0)=X2 key k Zz from rfl];by_cases e:X2 key k Zz=0
 .by_cases el:2000<(t data)
  .have el':2000<((t data):Int):=gX;have em:VG key k Zz (t data)=1:=by unfold VG;rw[if_neg (by rw[e];decide),if_pos el]
   simp +contextual -implicitDefEqProofs only[go_sem,e,el',em];exact⟨_,rfl,Yd.nil _ _ _⟩
  .have el':¬2000<((t data):Int):=gX;have em:VG key k Zz (t data)=0:=by unfold VG;rw[if_neg (by rw[e];decide),if_neg el]
   obtain⟨hk,hn,k0,k1⟩:=Gf e;obtain⟨m,rfl⟩:∃m:Nat,k=m:=⟨k.toNat,gX⟩
   rw[em,Int.toNat_natCast];obtain⟨X,hX⟩:=ZD (Nb key m Zz data);have hXl:(t X)=(t data):=by rw[hX,Vo]
   have hXb:∀x∈X,x<256:=by rw[hX];exact jv sd.byte
   have hXZ:(t X)=(J (t data) 0).length:=by simp[hXl]
   have xl:∀j,(X.take j++(J (t data) 0).drop j).length=(t data):=fun j=>by simp[hXl];omega
   rw[<-hX];simp +contextual -implicitDefEqProofs only[go_sem,e,el',bI];obtain⟨G,hG⟩:=ZD (h.push (K ((J (t data) 0).map bv).toArray 5):Hp);have So:G[h.size]? = R (K ((X.take (64*0)++(J (t data) 0).drop (64*0)).map bv++[]).toArray 5):=by
    rw[hG,Nat.mul_zero,GM,M];exact Zb
   have Dm:Zf h.size h G:=by rw[hG];exact Zf.push (N _) _
   rw[<-hG];clear hG;refine VS.Z9 (fun F g=>Zf h.size h g/\F 0=H p (t key) c/\F 1=D y m/\F 2=H q (t Zz) cn'/\F 3=H pd (t data) cd/\F 11=H (R ⟨h.size,0,S⟩) (t data) (t data)/\∃j:Nat,64*j<(t data)+64/\F 12=D y (64*j:Nat)/\g[h.size]? = R (K ((X.take (64*j)++(J (t data) 0).drop (64*j)).map bv++[]).toArray 5))
    (fun F _=>(t data)+64-(vi (F 12)).toNat) rfl ⟨Dm,rfl,rfl,rfl,rfl,rfl,0,gX,rfl,So⟩ ?_
   clear So Dm G;rintro F g ⟨hg,f0,f1,f2,f3,f11,j,hj,f12,hx⟩;have Pd:=Za hx;by_cases ZL:64*j<(t data)
   .have ZW:((64*j:Nat):Int)<(t data):=gX;have d1:((64*j:Nat):Int).tdiv 64=(j:Int):=by
     have:((64*j:Nat):Int).tdiv 64=((64*j/64:Nat):Int):=rfl;rw[this];omega
    have d2:(m:Int)+(j:Int)=((m+j:Nat):Int):=gX;have d3:((m+j:Nat):Int)%4294967296=((m+j:Nat):Int):=gX;simp +contextual -implicitDefEqProofs only[go_sem,f0,f1,f2,f3,f12,ZW,d1,d2,d3];refine (O9 T _ _ _ key Zz (m+j) (sk.Yb hg) (sn.Yb hg) hk hn gX ck cn).use ?_;rintro _ g1 ⟨rfl,b1⟩;have Iy:((XO key (m+j) Zz).map bv).length=64:=by simp[XO,Ge]
    have Xz:=Vz (XO key (m+j) Zz);have mH:(XO key (m+j) Zz).length=64:=by simpa using Iy
    have QH:=b1.get Pd hx;have UE:=hg.trans (b1.mono hg.size);have b1s:=b1.size;obtain⟨W,hW⟩:=ZD (XO key (m+j) Zz);have hWb:∀i,W.getD i 0<256:=fun i=>by rw[hW];exact M7 _ _ _ _
    rw[<-hW]at Iy Xz mH ⊢;simp +contextual -implicitDefEqProofs only[go_sem,Iy,Xz,ZZ,f12];have hxw:(g1.push (K (W.map bv++[]).toArray 205))[g1.size]? = R (K (W.map bv++[]).toArray 205):=Zb;rw[M]at hxw;have PA:(g1.push (K (W.map bv).toArray 205))[h.size]? = R (K ((X.take (64*j)++(J (t data) 0).drop (64*j)).map bv++[]).toArray 5):=by rw[Zl gX];exact QH
    have Sw:Zf h.size h (g1.push (K (W.map bv).toArray 205)):=UE.Yx gX _;generalize g1.push (K (W.map bv).toArray 205)=G at *;refine VS.Z9 (fun F g=>Zf h.size h g/\F 0=H p (t key) c/\F 1=D y m/\F 2=H q (t Zz) cn'/\F 3=H pd (t data) cd/\F 11=H (R ⟨h.size,0,S⟩) (t data) (t data)/\F 12=D y (64*j:Nat)/\F 13=.pointer (R ⟨g1.size,0,S⟩)/\g[g1.size]? = R (K (W.map bv).toArray 205)/\∃i:Nat,64*j<=i/\i<=64*j+64/\i<=(t data)/\F 14=D y i/\g[h.size]? = R (K ((X.take i++(J (t data) 0).drop i).map bv++[]).toArray 5))
     (fun F _=>(t data)-(vi (F 14)).toNat) rfl ⟨Sw,f0,f1,f2,f3,f11,f12,rfl,hxw,64*j,gX,gX,gX,rfl,PA⟩ ?_
    clear f0 f1 f2 f3 f11 f12 hxw PA QH Sw hx UE;rintro F g2 ⟨JK,f0,f1,f2,f3,f11,f12,f13,hxw,i,i1,i2,i3,f14,hx⟩;by_cases Mh:i<64*j+64/\i<(t data)
    .obtain⟨l1,l2⟩:=Mh;obtain⟨bd,od,rfl,bJ,hcd⟩:=hcd (by intro e;rw[e]at ZL;simp at ZL);have qj:(i:Int)<min (((64*j:Nat):Int)+64) ((t data):Int):=gX;have u1:V.hc g2 ⟨bd,od+i,S⟩=R (D .u8 (data.getD i 0:Nat)):=by rw[JK.hc (by exact bJ)];exact hcd i l2
     have hik:i-64*j<64:=gX;have u2:V.hc g2 ⟨g1.size,i-64*j,S⟩=R (D .u8 (W.getD (i-64*j) 0:Nat)):=by
      rw[<-M (W.map bv)]at hxw;exact ZX hxw (i:=i-64*j) gX
     have t1:(i:Int)-((64*j:Nat):Int)=((i-64*j:Nat):Int):=gX;have xb:=ZT sd.byte i;have ex:=FV (data.getD i 0) (W.getD (i-64*j) 0) xb (hWb _);have exX:X.getD i 0=data.getD i 0 ^^^ W.getD (i-64*j) 0:=by
      rw[hX,jw l2,hW];unfold ZcS;rw[show i/64=j by omega,show i%64=i-64*j by omega]
     rw[<-exX]at ex;have cs:Jb g2 ⟨h.size,i,S⟩ (D .u8 (X.getD i 0:Nat))=_:=Yk (f:=bv) hx (i:=i) (by rw[xl];exact l2) _ rfl;rw[JZ X _ i gX hXZ]at cs;simp +contextual -implicitDefEqProofs only[go_sem,f3,f12,f14,qj];have l2':(i:Int)<(t data):=gX;have t1':0<=(i:Int)-((64*j:Nat):Int):=gX;refine VS.w (g2.size) [13] (.q 0 (.q 1 (.q 2 (.q 3 (.q 4 (.q 5 (.q 6 (.q 7 (.q 8 (.q 9 (.q 10 (.q 11 (.q 12 (.w 13 .nil)))))))))))))) mixed po ?_;have Zpi:bd<g2.size:=Nat.lt_of_lt_of_le bJ JK.size;have hgw:=Za hxw;simp +contextual -implicitDefEqProofs only[go_sem,f3,f11,f12,f13,f14,t1,Zpi,hgw,u1,u2,ex,cs];refine⟨⟨JK.Zj (N _) _,f0,f1,f2,f3,f11,f12,f13,?_,i+1,gX,gX,gX,rfl,?_⟩,?_⟩
     .rw[Array.getElem?_setIfInBounds,if_neg gX];exact hxw
     .exact Z1 hx
     .simp only[vi,Zk,↓reduceIte,f14];omega
    .have qj:¬(i:Int)<min (((64*j:Nat):Int)+64) ((t data):Int):=gX;simp +contextual -implicitDefEqProofs only[go_sem,f3,f12,f14,qj];have e12:((64*j:Nat):Int)+64=((64*(j+1):Nat):Int):=gX;refine⟨⟨JK,f0,f1,f2,f3,f11,j+1,gX,by rw[<-e12];rfl,?_⟩,?_⟩
     .by_cases c1:i=64*j+64
      .rw[show 64*(j+1)=i by omega];exact hx
      .have e3:i=(t data):=gX;rw[O (show (t X)<=64*(j+1) by omega),Q (show (J (t data) 0).length<=64*(j+1) by simp;omega)];rw[O (show (t X)<=i by omega),Q (show (J (t data) 0).length<=i by simp;omega)]at hx;exact hx
     .simp only[vi,Zk,↓reduceIte,f12];omega
   .have YU:¬((64*j:Nat):Int)<(t data):=gX;have e1:X.take (64*j)=X:=O gX;have e2:(J (t data) 0).drop (64*j)=[]:=Q L6;rw[e1,e2,M,M]at hx;simp +contextual -implicitDefEqProofs only[go_sem,f3,f11,f12,YU,hg];refine⟨_,rfl,⟨.inr ⟨h.size,(t data),[],N _,by rw[hXl],by rw[M];exact hx,Dq,by rw[hXl];simp,by rw[hXl];exact N _⟩,hXb⟩⟩
 .have em:VG key k Zz (t data)=X2 key k Zz:=by unfold VG;rw[if_pos e]
  rw[em];simp +contextual -implicitDefEqProofs only[go_sem,e];exact⟨_,rfl,Yd.nil _ _ _⟩
end Go.Proofs.YtdpjmhgbmhjniaaGreatDoor
