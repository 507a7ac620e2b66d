/- Part Mix. -/
import Derived.Test.YtkhkmpfenaipaaaGreatDoorLchks
import Derived.Test.YtkhkmpfenaipaaaGreatDoorW12
open Go.Value renaming int→D,slice→H
open Go.IntKind renaming i64→y
open Go.Obj renaming cells→J
open Go.Proofs.Tryz renaming prog→S
open List renaming length→t,replicate→K,append_nil→M
open Nat renaming le_refl→N
open Option renaming some→O,none→Q
open Array renaming getElem?_push→R
namespace Go.Proofs.YtkhkmpfenaipaaaGreatDoor
open Go Go.V
set_option linter.all false
set_option maxRecDepth 100000
def mH(B:Nat)(h':Hp)(a:Value)(l:List Nat)(n:Int):Prop:=
 if (t l)<=100000/\0<=n/\n<=(t l) then ∃w,a=.tuple [.agg [w,D y (t l)].toArray,D y 0].toArray/\YL B 5 h' w l
 else a=.tuple [.agg [H Q 0 0,D y 0].toArray,D y 5].toArray
theorem Zgm(T:World)(h:Hp)(v:Value)(n:Int)(l:List Nat)(s:Bs h v l)(i:(t l)<=140737488355328):
  Zg S T 74 #[.agg [v,D y n].toArray] h fun f h'=>Zm h.size h h'/\mH h.size h' f l n:=by
 obtain⟨p,c,rfl,m⟩:=s.open;refine Zg.X8 [_] Tryz.func74 ?_;simp +contextual -implicitDefEqProofs only[go_sem];refine (Wp T _ _ n l (s.YQ (((Zm.refl _ _).add _).add _)) i).use ?_;rintro v1 d ⟨b,a⟩;have z1:h.size+1<d.size:=by have:=b.size;simp at this;omega
 have g:=b.get (k:=h.size+1) zX (by rw[R,if_pos zX]);have w1:=Yr g;have e:Zm h.size h d:=((Zm.refl _ _).add _).add _ |>.trans (b.mono Fo)
 unfold mH;by_cases q:(t l)<=100000/\0<=n/\n<=(t l)
 .rw[if_pos q]at a;obtain⟨w,rfl,a⟩:=a;obtain⟨p1,j,rfl,_⟩:=a.bs.open;simp +contextual -implicitDefEqProofs only[go_sem,w1,z1];refine⟨(e.ZA uh _).add _,_,rfl,?_⟩;exact ((a.Ym zX _).push _).mono Fo
 .rw[if_neg q]at a;subst a;simp +contextual -implicitDefEqProofs only[go_sem,w1,z1];exact (e.ZA uh _).add _
def QZ(l:List Nat)(n k:Int):Int:=n+(if ((t l):Int)-n<k then ((t l):Int)-n else k)
def Nr(l:List Nat)(n k:Int):List Nat × Int × Int:=
 if (t l)<=100000/\0<=n/\n<=(t l) then (if k<0 then ([],0,2) else (l.take (QZ l n k).toNat,QZ l n k,0)) else ([],0,5)
def rE(B:Nat)(h':Hp)(a:Value)(r:List Nat × Int × Int):Prop:=
 ∃p c L Z E,r=(L,Z,E)/\a=.tuple [.agg [H p (t L) c,D y Z].toArray,D y E].toArray/\Bs h' (H p (t L) c) L/\(t L)<=c/\∀b,Yq (H p (t L) c)=O b->B<=b/\b<h'.size
theorem ZbK(T:World)(h:Hp)(v:Value)(n k:Int)(l:List Nat)(s:Bs h v l)(x:(t l)<=140737488355328):
  Zg S T 57 #[.agg [v,D y n].toArray,D y k] h fun r h'=>Zm h.size h h'/\rE h.size h' r (Nr l n k):=by
 obtain⟨p,c,rfl,I⟩:=s.open;refine Zg.X8 [_,_] Tryz.func57 ?_;simp +contextual -implicitDefEqProofs only[go_sem];refine (Wp T _ _ n l (s.YQ (((Zm.refl _ _).add _).add _)) x).use ?_;rintro v1 g ⟨e,a⟩;have z1:h.size+1<g.size:=by have:=e.size;simp at this;omega
 have u:=e.get (k:=h.size+1) zX (by rw[R,if_pos zX]);have w1:=Yr u;have d:Zm h.size h g:=((Zm.refl _ _).add _).add _ |>.trans (e.mono Fo)
 unfold Nr;by_cases q:(t l)<=100000/\0<=n/\n<=(t l)
 .rw[if_pos q]at a;obtain⟨w,rfl,a⟩:=a;obtain⟨p1,j,rfl,g1⟩:=a.open;by_cases f:k<0
  .simp +contextual -implicitDefEqProofs only[go_sem,w1,z1,f];exact⟨(d.ZA uh _).add _,Q,0,[],_,_,rfl,rfl,(YL.nil 0 5 _).bs,N _,fun b hb=>by simp[Yq]at hb⟩
  .have G:0<=QZ l n k/\QZ l n k<=(t l):=by unfold QZ;split<;>omega
   have E:(n+(if ((t l):Int)-n<k then ((t l):Int)-n else k))=QZ l n k:=rfl;have C:((QZ l n k).toNat:Int)=QZ l n k:=uh;have i:(l.take (QZ l n k).toNat).length=(QZ l n k).toNat:=aac;simp +contextual -implicitDefEqProofs only[go_sem,w1,z1,f,E,C];refine⟨(d.ZA uh _).add _,p1,(QZ l n k).toNat,_,_,_,rfl,by rw[i],?_⟩;rw[i];have F:=(a.Ym (b:=h.size+1) (o:=J [H p1 (t l) j,D y n].toArray 95) zX).push (J [H Q 0 0,D y 0].toArray 95);refine⟨(((a.Ym zX _).push _).bs).MF uh _,N _,fun b hb=>?_⟩;have m:Yq (H p1 (t l) j)=O b:=by
    cases p1 with
    | none=>simp[Yq]at hb
    | some A=>
     grind [Yq]
   have B:=a.Zn.Yb b m;have z:=a.Zn.lt b m
   grind
 .rw[if_neg q]at a;subst a;simp +contextual -implicitDefEqProofs only[go_sem,w1,z1];exact⟨(d.ZA uh _).add _,Q,0,[],_,_,rfl,rfl,(YL.nil 0 5 _).bs,N _,fun b hb=>by simp[Yq]at hb⟩
def Ru(key:List Nat)(k:Int)(a:List Nat)(n:Nat):Int:=if Qi key k a≠0 then Qi key k a else if 2000<n then 1 else 0
def Zgn(key:List Nat)(k:Nat)(a data:List Nat)(i:Nat):Nat:=data.getD i 0 ^^^ (JP key (k+i/64) a).getD (i%64) 0
def KH(key:List Nat)(k:Nat)(a data:List Nat):List Nat:=(List.range (t data)).map (Zgn key k a data)
theorem H5(key:List Nat)(k:Nat)(a:List Nat)(i:Nat):(JP key k a).getD i 0<256:=Yn (Ex _ _) i
theorem ZbL{a b:Nat}(c:a<256)(hb:b<256):a ^^^ b<256:=Nat.xor_lt_two_pow (n:=8) c hb
theorem S4(key:List Nat)(k:Nat)(a data:List Nat):(KH key k a data).length=(t data):=by simp[KH]
theorem vN{key:List Nat}{k:Nat}{a data:List Nat}(b:∀x∈data,x<256):∀x∈KH key k a data,x<256:=by
 grind [KH,Zgn,ZbL,H5]
theorem vO{key:List Nat}{k:Nat}{a data:List Nat}{i:Nat}(hi:i<(t data)):(KH key k a data).getD i 0=Zgn key k a data i:=mB _ hi
def ZbM(B:Nat)(h':Hp)(b:Value)(key:List Nat)(k:Int)(a data:List Nat):Prop:=∃w,b=.tuple [w,D y (Ru key k a (t data))].toArray/\YL B 5 h' w (if Ru key k a (t data)=0 then KH key k.toNat a data else [])
theorem CQ{key:List Nat}{k:Int}{a:List Nat}(e:Qi key k a=0):(t key)=32/\(t a)=12/\0<=k/\k<=1073741824:=by
 unfold Qi at e
 grind
theorem mI(n:Nat):Ug n [Value.int .u8 0]=(K n 0).map bv:=by
 induction n with
 | zero=>rfl
 | succ n a=>rw[Ug,a];rfl
theorem ZbN(T:World)(h:Hp)(v u d:Value)(key a data:List Nat)(k:Int)(sk:Bs h v key)(sn:Bs h u a)(U:Bs h d data)(ck:RT v)(cn:RT u):
  Zg S T 63 #[v,D y k,u,d] h fun v' h'=>ZbM h.size h' v' key k a data/\Zm h.size h h':=by
 obtain⟨p,c,rfl,_⟩:=sk.open;obtain⟨q,E,rfl,_⟩:=sn.open;obtain⟨pd,cd,rfl,n⟩:=U.Th;refine Zg.X8 [_,_,_,_] Tryz.func63 ?_;unfold ZbM;simp +contextual -implicitDefEqProofs only[go_sem];refine (HY T _ _ _ _ _ _ _ _).pure ?_;rw[show (if (t key)≠32\/(t a)≠12 then (1:Int) else if k<0\/1073741824<k then 2 else 0)=Qi key k a from rfl];by_cases e:Qi key k a=0
 .by_cases el:2000<(t data)
  .have o:2000<((t data):Int):=uh;have C:Ru key k a (t data)=1:=by unfold Ru;rw[if_neg zK,if_pos el]
   simp +contextual -implicitDefEqProofs only[go_sem,e,o,C];exact⟨_,rfl,YL.nil _ _ _⟩
  .have o:¬2000<((t data):Int):=uh;have C:Ru key k a (t data)=0:=by unfold Ru;rw[if_neg zK,if_neg el]
   let⟨hk,hn,k0,k1⟩:=CQ e;obtain⟨m,rfl⟩:∃m:Nat,k=m:=⟨k.toNat,uh⟩
   rw[C,Int.toNat_natCast];let⟨X,I⟩:=ZO (KH key m a data);have A:(t X)=(t data):=by rw[I,S4]
   have Z:∀x∈X,x<256:=by rw[I];exact vN U.byte
   have a0:(t X)=(K (t data) 0).length:=by simp[A]
   have xl:∀j,(X.take j++(K (t data) 0).drop j).length=(t data):=fun j=>by grind
   rw[<-I];simp +contextual -implicitDefEqProofs only[go_sem,e,o,mI];let⟨G,L⟩:=ZO (h.push (J ((K (t data) 0).map bv).toArray 5):Hp);have LW:G[h.size]? = O (J ((X.take (64*0)++(K (t data) 0).drop (64*0)).map bv++[]).toArray 5):=by
    rw[L,Nat.mul_zero,vq,M];exact Zf
   have qN:Zm h.size h G:=by rw[L];exact Zm.push (N _) _
   rw[<-L];clear L;refine VS.YC (fun F g=>Zm h.size h g/\F 0=H p (t key) c/\F 1=D y m/\F 2=H q (t a) E/\F 3=H pd (t data) cd/\F 11=H (O ⟨h.size,0,Q⟩) (t data) (t data)/\∃j:Nat,64*j<(t data)+64/\F 12=D y (64*j:Nat)/\g[h.size]? = O (J ((X.take (64*j)++(K (t data) 0).drop (64*j)).map bv++[]).toArray 5))
    (fun F _=>(t data)+64-(vi (F 12)).toNat) rfl ⟨qN,rfl,rfl,rfl,rfl,rfl,0,uh,rfl,LW⟩ ?_
   clear LW qN G;rintro F g ⟨z,w,f1,f2,l,f11,j,hj,f12,s⟩;have Mm:=Zb s;by_cases Ye:64*j<(t data)
   .have Yh:((64*j:Nat):Int)<(t data):=uh;have d1:((64*j:Nat):Int).tdiv 64=(j:Int):=by
     have:((64*j:Nat):Int).tdiv 64=((64*j/64:Nat):Int):=rfl;rw[this];omega
    have d2:(m:Int)+(j:Int)=((m+j:Nat):Int):=uh;have d3:((m+j:Nat):Int)%4294967296=((m+j:Nat):Int):=uh;simp +contextual -implicitDefEqProofs only[go_sem,w,f1,f2,l,f12,Yh,d1,d2,d3];refine (KD T _ _ _ key a (m+j) (sk.YQ z) (sn.YQ z) hk hn uh ck cn).use ?_;rintro _ g1 ⟨rfl,b1⟩;have CN:((JP key (m+j) a).map bv).length=64:=by simp[JP,CM]
    have JD:=Oe (JP key (m+j) a);have BN:(JP key (m+j) a).length=64:=by simpa using CN
    have WH:=b1.get Mm s;have Tb:=z.trans (b1.mono z.size);have a8:=b1.size;let⟨W,hW⟩:=ZO (JP key (m+j) a);have a1:∀i,W.getD i 0<256:=fun i=>by rw[hW];exact H5 _ _ _ _
    rw[<-hW]at CN JD BN ⊢;simp +contextual -implicitDefEqProofs only[go_sem,CN,JD,Yf,f12];have b:(g1.push (J (W.map bv++[]).toArray 174))[g1.size]? = O (J (W.map bv++[]).toArray 174):=Zf;rw[M]at b;have LU:(g1.push (J (W.map bv).toArray 174))[h.size]? = O (J ((X.take (64*j)++(K (t data) 0).drop (64*j)).map bv++[]).toArray 5):=by rw[ZX uh];exact WH
    have Od:Zm h.size h (g1.push (J (W.map bv).toArray 174)):=Tb.Xj uh _;generalize g1.push (J (W.map bv).toArray 174)=G at *;refine VS.YC (fun F g=>Zm h.size h g/\F 0=H p (t key) c/\F 1=D y m/\F 2=H q (t a) E/\F 3=H pd (t data) cd/\F 11=H (O ⟨h.size,0,Q⟩) (t data) (t data)/\F 12=D y (64*j:Nat)/\F 13=.pointer (O ⟨g1.size,0,Q⟩)/\g[g1.size]? = O (J (W.map bv).toArray 174)/\∃i:Nat,64*j<=i/\i<=64*j+64/\i<=(t data)/\F 14=D y i/\g[h.size]? = O (J ((X.take i++(K (t data) 0).drop i).map bv++[]).toArray 5))
     (fun F _=>(t data)-(vi (F 14)).toNat) rfl ⟨Od,w,f1,f2,l,f11,f12,rfl,b,64*j,uh,uh,uh,rfl,LU⟩ ?_
    clear w f1 f2 l f11 f12 b LU WH Od s Tb;rintro F B ⟨P,w,f1,f2,l,f11,f12,f13,b,i,i1,i2,i3,f14,s⟩;by_cases Lr:i<64*j+64/\i<(t data)
    .let⟨l1,l2⟩:=Lr;obtain⟨bd,od,rfl,mJ,n⟩:=n zK;have r:(i:Int)<min (((64*j:Nat):Int)+64) ((t data):Int):=uh;have u1:V.hc B ⟨bd,od+i,Q⟩=O (D .u8 (data.getD i 0:Nat)):=by rw[P.hc (by exact mJ)];exact n i l2
     have a7:i-64*j<64:=uh;have u2:V.hc B ⟨g1.size,i-64*j,Q⟩=O (D .u8 (W.getD (i-64*j) 0:Nat)):=by
      rw[<-M (W.map bv)]at b;exact Yk b (i:=i-64*j) uh
     have t1:(i:Int)-((64*j:Nat):Int)=((i-64*j:Nat):Int):=uh;have xb:=Yn U.byte i;have ex:=ar (data.getD i 0) (W.getD (i-64*j) 0) xb (a1 _);have a2:X.getD i 0=data.getD i 0 ^^^ W.getD (i-64*j) 0:=by
      rw[I,vO l2,hW];unfold Zgn;rw[show i/64=j by omega,show i%64=i-64*j by omega]
     rw[<-a2]at ex;have cs:Uf B ⟨h.size,i,Q⟩ (D .u8 (X.getD i 0:Nat))=_:=YN (f:=bv) s (i:=i) zK _ rfl;rw[Ux X _ i uh a0]at cs;simp +contextual -implicitDefEqProofs only[go_sem,l,f12,f14,r];have a6:(i:Int)<(t data):=uh;have a5:0<=(i:Int)-((64*j:Nat):Int):=uh;refine VS.z (B.size) [13] (.p 0 (.p 1 (.p 2 (.p 3 (.p 4 (.q 5 (.p 6 (.p 7 (.p 8 (.p 9 (.q 10 (.p 11 (.p 12 (.w 13 .nil)))))))))))))) mixed zI ?_;have a4:bd<B.size:=Nat.lt_of_lt_of_le mJ P.size;have Y:=Zb b;simp +contextual -implicitDefEqProofs only[go_sem,l,f11,f12,f13,f14,t1,a4,Y,u1,u2,ex,cs];refine⟨⟨P.ZA (N _) _,w,f1,f2,l,f11,f12,f13,?_,i+1,uh,uh,uh,rfl,?_⟩,?_⟩
     .grind
     .grind
     .simp only[vi,Zu,↓reduceIte,f14];omega
    .have r:¬(i:Int)<min (((64*j:Nat):Int)+64) ((t data):Int):=uh;simp +contextual -implicitDefEqProofs only[go_sem,l,f12,f14,r];have a3:((64*j:Nat):Int)+64=((64*(j+1):Nat):Int):=uh;refine⟨⟨P,w,f1,f2,l,f11,j+1,uh,by rw[<-a3];rfl,?_⟩,?_⟩
     .grind
     .simp only[vi,Zu,↓reduceIte,f12];omega
   .have XX:¬((64*j:Nat):Int)<(t data):=uh;have e1:X.take (64*j)=X:=List.take_of_length_le uh;have e2:(K (t data) 0).drop (64*j)=[]:=List.drop_of_length_le Fo;rw[e1,e2,M,M]at s;simp +contextual -implicitDefEqProofs only[go_sem,l,f11,f12,XX,z];refine⟨_,rfl,⟨.inr ⟨h.size,(t data),[],N _,by rw[A],zK,zX,zK,zK⟩,Z⟩⟩
 .have C:Ru key k a (t data)=Qi key k a:=by unfold Ru;rw[if_pos e]
  rw[C];simp +contextual -implicitDefEqProofs only[go_sem,e];exact⟨_,rfl,YL.nil _ _ _⟩
end Go.Proofs.YtkhkmpfenaipaaaGreatDoor
