/- Part Mix. -/
import Derived.Test.YtdapjaalaomghaaGreatDoorTape
import Derived.Test.YtdapjaalaomghaaGreatDoorW12
import Derived.Test.YtdapjaalaomghaaGreatDoorLchks
open Go.Value renaming int→D,slice→H
open Go.IntKind renaming i64→y
open Go.Obj renaming cells→K
open Go.Proofs.Tryz renaming prog→Y
open List renaming length→t,replicate→J,append_nil→M,take_of_length_le→O,drop_of_length_le→Q
open Nat renaming le_refl→N
open Option renaming some→R,none→S
open Array renaming getElem?_push→U
namespace Go.Proofs.YtdapjaalaomghaaGreatDoor
open Go Go.V
set_option linter.all false
set_option maxRecDepth 100000
def iH(B:Nat)(h':Hp)(v':Value)(l:List Nat)(n:Int):Prop:=
 if (t l)<=100000/\0<=n/\n<=(t l) then ∃w,v'=.tuple [.agg [w,D y (t l)].toArray,D y 0].toArray/\Yx B 5 h' w l
 else v'=.tuple [.agg [H S 0 0,D y 0].toArray,D y 5].toArray
theorem ZcQ(T:World)(h:Hp)(v:Value)(n:Int)(l:List Nat)(s:Bs h v l)(hl:(t l)<=140737488355328):
  Zd Y T 68 #[.agg [v,D y n].toArray] h fun v' h'=>Zj h.size h h'/\iH h.size h' v' l n:=by
 obtain⟨p,c,rfl,WE⟩:=s.open;refine Zd.XT [_] Tryz.func68 ?_;simp +contextual -implicitDefEqProofs only[go_sem];refine (UX T _ _ n l (s.Yz (((Zj.refl _ _).add _).add _)) hl).use ?_;rintro v1 h1 ⟨b1,o1⟩;have z1:h.size+1<h1.size:=by have:=b1.size;simp at this;omega
 have r1:=b1.get (k:=h.size+1) uK (by rw[U,if_pos uK]);have w1:=Yd r1;have bb:Zj h.size h h1:=((Zj.refl _ _).add _).add _ |>.trans (b1.mono Ig)
 unfold iH;by_cases q:(t l)<=100000/\0<=n/\n<=(t l)
 .rw[if_pos q]at o1;obtain⟨w,rfl,o1⟩:=o1;obtain⟨p1,c1,rfl,_⟩:=o1.bs.open;simp +contextual -implicitDefEqProofs only[go_sem,w1,z1];refine⟨(bb.Zs nT _).add _,_,rfl,?_⟩;exact ((o1.Z9 uK _).push _).mono Ig
 .rw[if_neg q]at o1;subst o1;simp +contextual -implicitDefEqProofs only[go_sem,w1,z1];exact (bb.Zs nT _).add _
def Qy(l:List Nat)(n k:Int):Int:=n+(if ((t l):Int)-n<k then ((t l):Int)-n else k)
def Ot(l:List Nat)(n k:Int):List Nat × Int × Int:=
 if (t l)<=100000/\0<=n/\n<=(t l) then (if k<0 then ([],0,2) else (l.take (Qy l n k).toNat,Qy l n k,0)) else ([],0,5)
def mi(B:Nat)(h':Hp)(v':Value)(r:List Nat × Int × Int):Prop:=
 ∃p c L Z E,r=(L,Z,E)/\v'=.tuple [.agg [H p (t L) c,D y Z].toArray,D y E].toArray/\Bs h' (H p (t L) c) L/\(t L)<=c/\∀b,Yf (H p (t L) c)=R b->B<=b/\b<h'.size
theorem xQ(T:World)(h:Hp)(v:Value)(n k:Int)(l:List Nat)(s:Bs h v l)(hl:(t l)<=140737488355328):
  Zd Y T 53 #[.agg [v,D y n].toArray,D y k] h fun v' h'=>Zj h.size h h'/\mi h.size h' v' (Ot l n k):=by
 obtain⟨p,c,rfl,WE⟩:=s.open;refine Zd.XT [_,_] Tryz.func53 ?_;simp +contextual -implicitDefEqProofs only[go_sem];refine (UX T _ _ n l (s.Yz (((Zj.refl _ _).add _).add _)) hl).use ?_;rintro v1 h1 ⟨b1,o1⟩;have z1:h.size+1<h1.size:=by have:=b1.size;simp at this;omega
 have r1:=b1.get (k:=h.size+1) uK (by rw[U,if_pos uK]);have w1:=Yd r1;have bb:Zj h.size h h1:=((Zj.refl _ _).add _).add _ |>.trans (b1.mono Ig)
 unfold Ot;by_cases q:(t l)<=100000/\0<=n/\n<=(t l)
 .rw[if_pos q]at o1;obtain⟨w,rfl,o1⟩:=o1;obtain⟨p1,c1,rfl,g1⟩:=o1.open;by_cases q1:k<0
  .simp +contextual -implicitDefEqProofs only[go_sem,w1,z1,q1];exact⟨(bb.Zs nT _).add _,S,0,[],_,_,rfl,rfl,(Yx.nil 0 5 _).bs,N _,fun b hb=>by simp[Yf]at hb⟩
  .have e1:0<=Qy l n k/\Qy l n k<=(t l):=by unfold Qy;split<;>omega
   have e2:(n+(if ((t l):Int)-n<k then ((t l):Int)-n else k))=Qy l n k:=rfl;have e3:((Qy l n k).toNat:Int)=Qy l n k:=nT;have e4:(l.take (Qy l n k).toNat).length=(Qy l n k).toNat:=aac;simp +contextual -implicitDefEqProofs only[go_sem,w1,z1,q1,e2,e3];refine⟨(bb.Zs nT _).add _,p1,(Qy l n k).toNat,_,_,_,rfl,by rw[e4],?_⟩;rw[e4];have o2:=(o1.Z9 (b:=h.size+1) (o:=K [H p1 (t l) c1,D y n].toArray 99) uK).push (K [H S 0 0,D y 0].toArray 99);refine⟨(((o1.Z9 uK _).push _).bs).Md nT _,N _,fun b hb=>?_⟩;have HI:Yf (H p1 (t l) c1)=R b:=by
    cases p1 with
    | none=>simp[Yf]at hb
    | some A=>
     by_cases z:(Qy l n k).toNat=0
     .rw[z]at hb;simp[Yf]at hb
     .have lJ:c1≠0:=by have:=g1;omega
      simp[Yf,z]at hb;simp[Yf,lJ,hb]
   have h1b:=o1.Zm.ZW b HI;have h2b:=o1.Zm.lt b HI;simp only[Array.size_push,Array.size_setIfInBounds];simp at h1b;omega
 .rw[if_neg q]at o1;subst o1;simp +contextual -implicitDefEqProofs only[go_sem,w1,z1];exact⟨(bb.Zs nT _).add _,S,0,[],_,_,rfl,rfl,(Yx.nil 0 5 _).bs,N _,fun b hb=>by simp[Yf]at hb⟩
def SG(key:List Nat)(k:Int)(ZC:List Nat)(n:Nat):Int:=if JT key k ZC≠0 then JT key k ZC else if 2000<n then 1 else 0
def aR(key:List Nat)(k:Nat)(ZC data:List Nat)(i:Nat):Nat:=data.getD i 0 ^^^ (Jq key (k+i/64) ZC).getD (i%64) 0
def Wm(key:List Nat)(k:Nat)(ZC data:List Nat):List Nat:=(List.range (t data)).map (aR key k ZC data)
theorem IB(key:List Nat)(k:Nat)(ZC:List Nat)(i:Nat):(Jq key k ZC).getD i 0<256:=Z3 (GV _ _) i
theorem xS{a b:Nat}(ha:a<256)(hb:b<256):a ^^^ b<256:=Nat.xor_lt_two_pow (n:=8) ha hb
theorem Ju(key:List Nat)(k:Nat)(ZC data:List Nat):(Wm key k ZC data).length=(t data):=by simp[Wm]
theorem qc{key:List Nat}{k:Nat}{ZC data:List Nat}(hd:∀x∈data,x<256):∀x∈Wm key k ZC data,x<256:=by
 intro x hx;obtain⟨i,_,rfl⟩:=List.mem_map.1 hx;exact xS (Z3 hd _) (IB _ _ _ _)
theorem qd{key:List Nat}{k:Nat}{ZC data:List Nat}{i:Nat}(hi:i<(t data)):(Wm key k ZC data).getD i 0=aR key k ZC data i:=GU _ hi
def xV(B:Nat)(h':Hp)(v':Value)(key:List Nat)(k:Int)(ZC data:List Nat):Prop:=∃w,v'=.tuple [w,D y (SG key k ZC (t data))].toArray/\Yx B 5 h' w (if SG key k ZC (t data)=0 then Wm key k.toNat ZC data else [])
theorem ET{key:List Nat}{k:Int}{ZC:List Nat}(e:JT key k ZC=0):(t key)=32/\(t ZC)=12/\0<=k/\k<=1073741824:=by
 unfold JT at e
 repeat' split at e
 all_goals first|omega|cases e
theorem iI(n:Nat):Qg n [Value.int .u8 0]=(J n 0).map bv:=by
 induction n with
 | zero=>rfl
 | succ n ih=>rw[Qg,ih];rfl
theorem xW(T:World)(h:Hp)(v u d:Value)(key ZC data:List Nat)(k:Int)(sk:Bs h v key)(sn:Bs h u ZC)(sd:Bs h d data)(ck:PM v)(cn:PM u):
  Zd Y T 44 #[v,D y k,u,d] h fun v' h'=>xV h.size h' v' key k ZC data/\Zj h.size h h':=by
 obtain⟨p,c,rfl,_⟩:=sk.open;obtain⟨q,cn',rfl,_⟩:=sn.open;obtain⟨pd,cd,rfl,hcd⟩:=sd.VJ;refine Zd.XT [_,_,_,_] Tryz.func44 ?_;unfold xV;simp +contextual -implicitDefEqProofs only[go_sem];refine (Iz T _ _ _ _ _ _ _ _).pure ?_;rw[show (if (t key)≠32\/(t ZC)≠12 then (1:Int) else if k<0\/1073741824<k then 2 else 0)=JT key k ZC from rfl];by_cases e:JT key k ZC=0
 .by_cases el:2000<(t data)
  .have el':2000<((t data):Int):=nT;have em:SG key k ZC (t data)=1:=by unfold SG;rw[if_neg (by rw[e];decide),if_pos el]
   simp +contextual -implicitDefEqProofs only[go_sem,e,el',em];exact⟨_,rfl,Yx.nil _ _ _⟩
  .have el':¬2000<((t data):Int):=nT;have em:SG key k ZC (t data)=0:=by unfold SG;rw[if_neg (by rw[e];decide),if_neg el]
   obtain⟨hk,hn,k0,k1⟩:=ET e;obtain⟨m,rfl⟩:∃m:Nat,k=m:=⟨k.toNat,nT⟩
   rw[em,Int.toNat_natCast];obtain⟨X,hX⟩:=ZN (Wm key m ZC data);have hXl:(t X)=(t data):=by rw[hX,Ju]
   have hXb:∀x∈X,x<256:=by rw[hX];exact qc sd.byte
   have hXZ:(t X)=(J (t data) 0).length:=by simp[hXl]
   have xl:∀j,(X.take j++(J (t data) 0).drop j).length=(t data):=fun j=>by simp[hXl];omega
   rw[<-hX];simp +contextual -implicitDefEqProofs only[go_sem,e,el',iI];obtain⟨G,hG⟩:=ZN (h.push (K ((J (t data) 0).map bv).toArray 5):Hp);have O3:G[h.size]? = R (K ((X.take (64*0)++(J (t data) 0).drop (64*0)).map bv++[]).toArray 5):=by
    rw[hG,Nat.mul_zero,Dr,M];exact Zc
   have uh:Zj h.size h G:=by rw[hG];exact Zj.push (N _) _
   rw[<-hG];clear hG;refine VS.Yk (fun F g=>Zj h.size h g/\F 0=H p (t key) c/\F 1=D y m/\F 2=H q (t ZC) cn'/\F 3=H pd (t data) cd/\F 11=H (R ⟨h.size,0,S⟩) (t data) (t data)/\∃j:Nat,64*j<(t data)+64/\F 12=D y (64*j:Nat)/\g[h.size]? = R (K ((X.take (64*j)++(J (t data) 0).drop (64*j)).map bv++[]).toArray 5))
    (fun F _=>(t data)+64-(vi (F 12)).toNat) rfl ⟨uh,rfl,rfl,rfl,rfl,rfl,0,nT,rfl,O3⟩ ?_
   clear O3 uh G;rintro F g ⟨hg,f0,f1,f2,f3,f11,j,hj,f12,hx⟩;have Oo:=Za hx;by_cases ZS:64*j<(t data)
   .have Z7:((64*j:Nat):Int)<(t data):=nT;have d1:((64*j:Nat):Int).tdiv 64=(j:Int):=by
     have:((64*j:Nat):Int).tdiv 64=((64*j/64:Nat):Int):=rfl;rw[this];omega
    have d2:(m:Int)+(j:Int)=((m+j:Nat):Int):=nT;have d3:((m+j:Nat):Int)%4294967296=((m+j:Nat):Int):=nT;simp +contextual -implicitDefEqProofs only[go_sem,f0,f1,f2,f3,f12,Z7,d1,d2,d3];refine (Ln T _ _ _ key ZC (m+j) (sk.Yz hg) (sn.Yz hg) hk hn nT ck cn).use ?_;rintro _ g1 ⟨rfl,b1⟩;have GW:((Jq key (m+j) ZC).map bv).length=64:=by simp[Jq,EQ]
    have XW:=RP (Jq key (m+j) ZC);have hlb:(Jq key (m+j) ZC).length=64:=by simpa using GW
    have Wi:=b1.get Oo hx;have Wf:=hg.trans (b1.mono hg.size);have b1s:=b1.size;obtain⟨W,hW⟩:=ZN (Jq key (m+j) ZC);have hWb:∀i,W.getD i 0<256:=fun i=>by rw[hW];exact IB _ _ _ _
    rw[<-hW]at GW XW hlb ⊢;simp +contextual -implicitDefEqProofs only[go_sem,GW,XW,Z4,f12];have hxw:(g1.push (K (W.map bv++[]).toArray 143))[g1.size]? = R (K (W.map bv++[]).toArray 143):=Zc;rw[M]at hxw;have Mj:(g1.push (K (W.map bv).toArray 143))[h.size]? = R (K ((X.take (64*j)++(J (t data) 0).drop (64*j)).map bv++[]).toArray 5):=by rw[ZI nT];exact Wi
    have SA:Zj h.size h (g1.push (K (W.map bv).toArray 143)):=Wf.YU nT _;generalize g1.push (K (W.map bv).toArray 143)=G at *;refine VS.Yk (fun F g=>Zj h.size h g/\F 0=H p (t key) c/\F 1=D y m/\F 2=H q (t ZC) cn'/\F 3=H pd (t data) cd/\F 11=H (R ⟨h.size,0,S⟩) (t data) (t data)/\F 12=D y (64*j:Nat)/\F 13=.pointer (R ⟨g1.size,0,S⟩)/\g[g1.size]? = R (K (W.map bv).toArray 143)/\∃i:Nat,64*j<=i/\i<=64*j+64/\i<=(t data)/\F 14=D y i/\g[h.size]? = R (K ((X.take i++(J (t data) 0).drop i).map bv++[]).toArray 5))
     (fun F _=>(t data)-(vi (F 14)).toNat) rfl ⟨SA,f0,f1,f2,f3,f11,f12,rfl,hxw,64*j,nT,nT,nT,rfl,Mj⟩ ?_
    clear f0 f1 f2 f3 f11 f12 hxw Mj Wi SA hx Wf;rintro F g2 ⟨WB,f0,f1,f2,f3,f11,f12,f13,hxw,i,i1,i2,i3,f14,hx⟩;by_cases Hl:i<64*j+64/\i<(t data)
    .obtain⟨l1,l2⟩:=Hl;obtain⟨bd,od,rfl,iJ,hcd⟩:=hcd (by intro e;rw[e]at ZS;simp at ZS);have xX:(i:Int)<min (((64*j:Nat):Int)+64) ((t data):Int):=nT;have u1:V.hc g2 ⟨bd,od+i,S⟩=R (D .u8 (data.getD i 0:Nat)):=by rw[WB.hc (by exact iJ)];exact hcd i l2
     have hik:i-64*j<64:=nT;have u2:V.hc g2 ⟨g1.size,i-64*j,S⟩=R (D .u8 (W.getD (i-64*j) 0:Nat)):=by
      rw[<-M (W.map bv)]at hxw;exact Z6 hxw (i:=i-64*j) nT
     have t1:(i:Int)-((64*j:Nat):Int)=((i-64*j:Nat):Int):=nT;have xb:=Z3 sd.byte i;have ex:=CM (data.getD i 0) (W.getD (i-64*j) 0) xb (hWb _);have exX:X.getD i 0=data.getD i 0 ^^^ W.getD (i-64*j) 0:=by
      rw[hX,qd l2,hW];unfold aR;rw[show i/64=j by omega,show i%64=i-64*j by omega]
     rw[<-exX]at ex;have cs:QQ g2 ⟨h.size,i,S⟩ (D .u8 (X.getD i 0:Nat))=_:=Yv (f:=bv) hx (i:=i) (by rw[xl];exact l2) _ rfl;rw[QU X _ i nT hXZ]at cs;simp +contextual -implicitDefEqProofs only[go_sem,f3,f12,f14,xX];have l2':(i:Int)<(t data):=nT;have t1':0<=(i:Int)-((64*j:Nat):Int):=nT;refine VS.w (g2.size) [13] (.q 0 (.q 1 (.q 2 (.q 3 (.q 4 (.q 5 (.q 6 (.q 7 (.q 8 (.q 9 (.q 10 (.q 11 (.q 12 (.w 13 .nil)))))))))))))) mixed uj ?_;have Zs7:bd<g2.size:=Nat.lt_of_lt_of_le iJ WB.size;have hgw:=Za hxw;simp +contextual -implicitDefEqProofs only[go_sem,f3,f11,f12,f13,f14,t1,Zs7,hgw,u1,u2,ex,cs];refine⟨⟨WB.Zs (N _) _,f0,f1,f2,f3,f11,f12,f13,?_,i+1,nT,nT,nT,rfl,?_⟩,?_⟩
     .rw[Array.getElem?_setIfInBounds,if_neg nT];exact hxw
     .exact Yc hx
     .simp only[vi,Zq,↓reduceIte,f14];omega
    .have xX:¬(i:Int)<min (((64*j:Nat):Int)+64) ((t data):Int):=nT;simp +contextual -implicitDefEqProofs only[go_sem,f3,f12,f14,xX];have e12:((64*j:Nat):Int)+64=((64*(j+1):Nat):Int):=nT;refine⟨⟨WB,f0,f1,f2,f3,f11,j+1,nT,by rw[<-e12];rfl,?_⟩,?_⟩
     .by_cases c1:i=64*j+64
      .rw[show 64*(j+1)=i by omega];exact hx
      .have e3:i=(t data):=nT;rw[O (show (t X)<=64*(j+1) by omega),Q (show (J (t data) 0).length<=64*(j+1) by simp;omega)];rw[O (show (t X)<=i by omega),Q (show (J (t data) 0).length<=i by simp;omega)]at hx;exact hx
     .simp only[vi,Zq,↓reduceIte,f12];omega
   .have Xv:¬((64*j:Nat):Int)<(t data):=nT;have e1:X.take (64*j)=X:=O nT;have e2:(J (t data) 0).drop (64*j)=[]:=Q Ig;rw[e1,e2,M,M]at hx;simp +contextual -implicitDefEqProofs only[go_sem,f3,f11,f12,Xv,hg];refine⟨_,rfl,⟨.inr ⟨h.size,(t data),[],N _,by rw[hXl],by rw[M];exact hx,uK,by rw[hXl];simp,by rw[hXl];exact N _⟩,hXb⟩⟩
 .have em:SG key k ZC (t data)=JT key k ZC:=by unfold SG;rw[if_pos e]
  rw[em];simp +contextual -implicitDefEqProofs only[go_sem,e];exact⟨_,rfl,Yx.nil _ _ _⟩
end Go.Proofs.YtdapjaalaomghaaGreatDoor
