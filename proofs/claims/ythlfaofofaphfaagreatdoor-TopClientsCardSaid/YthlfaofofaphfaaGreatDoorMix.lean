/- Part Mix. -/
import Derived.Test.YthlfaofofaphfaaGreatDoorTape
import Derived.Test.YthlfaofofaphfaaGreatDoorW12
import Derived.Test.YthlfaofofaphfaaGreatDoorLchks
open Go.Value renaming int→D,slice→H
open Go.IntKind renaming i64→y
open Go.Obj renaming cells→K
open Go.Proofs.Tryz renaming prog→Y
open List renaming length→t,replicate→J,append_nil→M,take_of_length_le→O,drop_of_length_le→Q
open Nat renaming le_refl→N
open Option renaming some→R,none→S
open Array renaming getElem?_push→U
namespace Go.Proofs.YthlfaofofaphfaaGreatDoor
open Go Go.V
set_option linter.unusedSimpArgs false
set_option linter.unusedVariables false
set_option maxRecDepth 100000
def gQ(B:Nat)(h':Hp)(v':Value)(l:List Nat)(n:Int):Prop:=
 if (t l)<=100000/\0<=n/\n<=(t l) then ∃w,v'=.tuple [.agg [w,D y (t l)].toArray,D y 0].toArray/\Yx B 5 h' w l
 else v'=.tuple [.agg [H S 0 0,D y 0].toArray,D y 5].toArray
theorem Zcf(T:World)(h:Hp)(v:Value)(n:Int)(l:List Nat)(s:Bs h v l)(hl:(t l)<=140737488355328):
  Zd Y T 70 #[.agg [v,D y n].toArray] h fun v' h'=>Zk h.size h h'/\gQ h.size h' v' l n:=by
 obtain⟨p,c,rfl,Wr⟩:=s.open;refine Zd.XS [_] Tryz.func70 ?_;simp +contextual -implicitDefEqProofs only[go_sem];refine (UP T _ _ n l (s.Yy (((Zk.refl _ _).add _).add _)) hl).use ?_;rintro v1 h1 ⟨b1,o1⟩;have z1:h.size+1<h1.size:=by have:=b1.size;simp at this;omega
 have r1:=b1.get (k:=h.size+1) Hg (by rw[U,if_pos Hg]);have w1:=Ye r1;have bb:Zk h.size h h1:=((Zk.refl _ _).add _).add _ |>.trans (b1.mono KQ)
 unfold gQ;by_cases q:(t l)<=100000/\0<=n/\n<=(t l)
 .rw[if_pos q]at o1;obtain⟨w,rfl,o1⟩:=o1;obtain⟨p1,c1,rfl,_⟩:=o1.bs.open;simp +contextual -implicitDefEqProofs only[go_sem,w1,z1];refine⟨(bb.Zt nc _).add _,_,rfl,?_⟩;exact ((o1.Ya Hg _).push _).mono KQ
 .rw[if_neg q]at o1;subst o1;simp +contextual -implicitDefEqProofs only[go_sem,w1,z1];exact (bb.Zt nc _).add _
def Qy(l:List Nat)(n k:Int):Int:=n+(if ((t l):Int)-n<k then ((t l):Int)-n else k)
def PZ(l:List Nat)(n k:Int):List Nat × Int × Int:=
 if (t l)<=100000/\0<=n/\n<=(t l) then (if k<0 then ([],0,2) else (l.take (Qy l n k).toNat,Qy l n k,0)) else ([],0,5)
def lq(B:Nat)(h':Hp)(v':Value)(r:List Nat × Int × Int):Prop:=
 ∃p c L Z E,r=(L,Z,E)/\v'=.tuple [.agg [H p (t L) c,D y Z].toArray,D y E].toArray/\Bs h' (H p (t L) c) L/\(t L)<=c/\∀b,Yf (H p (t L) c)=R b->B<=b/\b<h'.size
theorem xh(T:World)(h:Hp)(v:Value)(n k:Int)(l:List Nat)(s:Bs h v l)(hl:(t l)<=140737488355328):
  Zd Y T 55 #[.agg [v,D y n].toArray,D y k] h fun v' h'=>Zk h.size h h'/\lq h.size h' v' (PZ l n k):=by
 obtain⟨p,c,rfl,Wr⟩:=s.open;refine Zd.XS [_,_] Tryz.func55 ?_;simp +contextual -implicitDefEqProofs only[go_sem];refine (UP T _ _ n l (s.Yy (((Zk.refl _ _).add _).add _)) hl).use ?_;rintro v1 h1 ⟨b1,o1⟩;have z1:h.size+1<h1.size:=by have:=b1.size;simp at this;omega
 have r1:=b1.get (k:=h.size+1) Hg (by rw[U,if_pos Hg]);have w1:=Ye r1;have bb:Zk h.size h h1:=((Zk.refl _ _).add _).add _ |>.trans (b1.mono KQ)
 unfold PZ;by_cases q:(t l)<=100000/\0<=n/\n<=(t l)
 .rw[if_pos q]at o1;obtain⟨w,rfl,o1⟩:=o1;obtain⟨p1,c1,rfl,g1⟩:=o1.open;by_cases q1:k<0
  .simp +contextual -implicitDefEqProofs only[go_sem,w1,z1,q1];exact⟨(bb.Zt nc _).add _,S,0,[],_,_,rfl,rfl,(Yx.nil 0 5 _).bs,N _,fun b hb=>by simp[Yf]at hb⟩
  .have e1:0<=Qy l n k/\Qy l n k<=(t l):=by unfold Qy;split<;>omega
   have e2:(n+(if ((t l):Int)-n<k then ((t l):Int)-n else k))=Qy l n k:=rfl;have e3:((Qy l n k).toNat:Int)=Qy l n k:=nc;have e4:(l.take (Qy l n k).toNat).length=(Qy l n k).toNat:=aad;simp +contextual -implicitDefEqProofs only[go_sem,w1,z1,q1,e2,e3];refine⟨(bb.Zt nc _).add _,p1,(Qy l n k).toNat,_,_,_,rfl,by rw[e4],?_⟩;rw[e4];have o2:=(o1.Ya (b:=h.size+1) (o:=K [H p1 (t l) c1,D y n].toArray 100) Hg).push (K [H S 0 0,D y 0].toArray 100);refine⟨(((o1.Ya Hg _).push _).bs).NL nc _,N _,fun b hb=>?_⟩;have Hr:Yf (H p1 (t l) c1)=R b:=by
    cases p1 with
    | none=>simp[Yf]at hb
    | some A=>
     by_cases z:(Qy l n k).toNat=0
     .rw[z]at hb;simp[Yf]at hb
     .have kJ:c1≠0:=by have:=g1;omega
      simp[Yf,z]at hb;simp[Yf,kJ,hb]
   have h1b:=o1.Zq.ZX b Hr;have h2b:=o1.Zq.lt b Hr;simp only[Array.size_push,Array.size_setIfInBounds];simp at h1b;omega
 .rw[if_neg q]at o1;subst o1;simp +contextual -implicitDefEqProofs only[go_sem,w1,z1];exact⟨(bb.Zt nc _).add _,S,0,[],_,_,rfl,rfl,(Yx.nil 0 5 _).bs,N _,fun b hb=>by simp[Yf]at hb⟩
def So(key:List Nat)(k:Int)(ZD:List Nat)(n:Nat):Int:=if JQ key k ZD≠0 then JQ key k ZD else if 2000<n then 1 else 0
def ao(key:List Nat)(k:Nat)(ZD data:List Nat)(i:Nat):Nat:=data.getD i 0 ^^^ (Jr key (k+i/64) ZD).getD (i%64) 0
def U3(key:List Nat)(k:Nat)(ZD data:List Nat):List Nat:=(List.range (t data)).map (ao key k ZD data)
theorem In(key:List Nat)(k:Nat)(ZD:List Nat)(i:Nat):(Jr key k ZD).getD i 0<256:=Z2 (GC _ _) i
theorem xj{a b:Nat}(ha:a<256)(hb:b<256):a ^^^ b<256:=Nat.xor_lt_two_pow (n:=8) ha hb
theorem Ju(key:List Nat)(k:Nat)(ZD data:List Nat):(U3 key k ZD data).length=(t data):=by simp[U3]
theorem pB{key:List Nat}{k:Nat}{ZD data:List Nat}(hd:∀x∈data,x<256):∀x∈U3 key k ZD data,x<256:=by
 intro x hx;obtain⟨i,_,rfl⟩:=List.mem_map.1 hx;exact xj (Z2 hd _) (In _ _ _ _)
theorem pC{key:List Nat}{k:Nat}{ZD data:List Nat}{i:Nat}(hi:i<(t data)):(U3 key k ZD data).getD i 0=ao key k ZD data i:=GB _ hi
def xm(B:Nat)(h':Hp)(v':Value)(key:List Nat)(k:Int)(ZD data:List Nat):Prop:=∃w,v'=.tuple [w,D y (So key k ZD (t data))].toArray/\Yx B 5 h' w (if So key k ZD (t data)=0 then U3 key k.toNat ZD data else [])
theorem EB{key:List Nat}{k:Int}{ZD:List Nat}(e:JQ key k ZD=0):(t key)=32/\(t ZD)=12/\0<=k/\k<=1073741824:=by
 unfold JQ at e
 repeat' split at e
 all_goals first|omega|cases e
theorem gS(n:Nat):Qf n [Value.int .u8 0]=(J n 0).map bv:=by
 induction n with
 | zero=>rfl
 | succ n ih=>rw[Qf,ih];rfl
theorem xo(T:World)(h:Hp)(v u d:Value)(key ZD data:List Nat)(k:Int)(sk:Bs h v key)(sn:Bs h u ZD)(sd:Bs h d data)(ck:Ph v)(cn:Ph u):
  Zd Y T 46 #[v,D y k,u,d] h fun v' h'=>xm h.size h' v' key k ZD data/\Zk h.size h h':=by
 obtain⟨p,c,rfl,_⟩:=sk.open;obtain⟨q,cn',rfl,_⟩:=sn.open;obtain⟨pd,cd,rfl,hcd⟩:=sd.VA;refine Zd.XS [_,_,_,_] Tryz.func46 ?_;unfold xm;simp +contextual -implicitDefEqProofs only[go_sem];refine (Ik T _ _ _ _ _ _ _ _).pure ?_;rw[show (if (t key)≠32\/(t ZD)≠12 then (1:Int) else if k<0\/1073741824<k then 2 else 0)=JQ key k ZD from rfl];by_cases e:JQ key k ZD=0
 .by_cases el:2000<(t data)
  .have el':2000<((t data):Int):=nc;have em:So key k ZD (t data)=1:=by unfold So;rw[if_neg (by rw[e];decide),if_pos el]
   simp +contextual -implicitDefEqProofs only[go_sem,e,el',em];exact⟨_,rfl,Yx.nil _ _ _⟩
  .have el':¬2000<((t data):Int):=nc;have em:So key k ZD (t data)=0:=by unfold So;rw[if_neg (by rw[e];decide),if_neg el]
   obtain⟨hk,hn,k0,k1⟩:=EB e;obtain⟨m,rfl⟩:∃m:Nat,k=m:=⟨k.toNat,nc⟩
   rw[em,Int.toNat_natCast];obtain⟨X,hX⟩:=ZQ (U3 key m ZD data);have hXl:(t X)=(t data):=by rw[hX,Ju]
   have hXb:∀x∈X,x<256:=by rw[hX];exact pB sd.byte
   have hXZ:(t X)=(J (t data) 0).length:=by simp[hXl]
   have xl:∀j,(X.take j++(J (t data) 0).drop j).length=(t data):=fun j=>by simp[hXl];omega
   rw[<-hX];simp +contextual -implicitDefEqProofs only[go_sem,e,el',gS];obtain⟨G,hG⟩:=ZQ (h.push (K ((J (t data) 0).map bv).toArray 5):Hp);have Pq:G[h.size]? = R (K ((X.take (64*0)++(J (t data) 0).drop (64*0)).map bv++[]).toArray 5):=by
    rw[hG,Nat.mul_zero,E8,M];exact Zc
   have tF:Zk h.size h G:=by rw[hG];exact Zk.push (N _) _
   rw[<-hG];clear hG;refine VS.Yj (fun F g=>Zk h.size h g/\F 0=H p (t key) c/\F 1=D y m/\F 2=H q (t ZD) cn'/\F 3=H pd (t data) cd/\F 11=H (R ⟨h.size,0,S⟩) (t data) (t data)/\∃j:Nat,64*j<(t data)+64/\F 12=D y (64*j:Nat)/\g[h.size]? = R (K ((X.take (64*j)++(J (t data) 0).drop (64*j)).map bv++[]).toArray 5))
    (fun F _=>(t data)+64-(vi (F 12)).toNat) rfl ⟨tF,rfl,rfl,rfl,rfl,rfl,0,nc,rfl,Pq⟩ ?_
   clear Pq tF G;rintro F g ⟨hg,f0,f1,f2,f3,f11,j,hj,f12,hx⟩;have PU:=Za hx;by_cases ZU:64*j<(t data)
   .have Z8:((64*j:Nat):Int)<(t data):=nc;have d1:((64*j:Nat):Int).tdiv 64=(j:Int):=by
     have:((64*j:Nat):Int).tdiv 64=((64*j/64:Nat):Int):=rfl;rw[this];omega
    have d2:(m:Int)+(j:Int)=((m+j:Nat):Int):=nc;have d3:((m+j:Nat):Int)%4294967296=((m+j:Nat):Int):=nc;simp +contextual -implicitDefEqProofs only[go_sem,f0,f1,f2,f3,f12,Z8,d1,d2,d3];refine (MZ T _ _ _ key ZD (m+j) (sk.Yy hg) (sn.Yy hg) hk hn nc ck cn).use ?_;rintro _ g1 ⟨rfl,b1⟩;have GD:((Jr key (m+j) ZD).map bv).length=64:=by simp[Jr,Ey]
    have XV:=Rw (Jr key (m+j) ZD);have hlb:(Jr key (m+j) ZD).length=64:=by simpa using GD
    have UY:=b1.get PU hx;have WT:=hg.trans (b1.mono hg.size);have b1s:=b1.size;obtain⟨W,hW⟩:=ZQ (Jr key (m+j) ZD);have hWb:∀i,W.getD i 0<256:=fun i=>by rw[hW];exact In _ _ _ _
    rw[<-hW]at GD XV hlb ⊢;simp +contextual -implicitDefEqProofs only[go_sem,GD,XV,Z3,f12];have hxw:(g1.push (K (W.map bv++[]).toArray 144))[g1.size]? = R (K (W.map bv++[]).toArray 144):=Zc;rw[M]at hxw;have NV:(g1.push (K (W.map bv).toArray 144))[h.size]? = R (K ((X.take (64*j)++(J (t data) 0).drop (64*j)).map bv++[]).toArray 5):=by rw[ZJ nc];exact UY
    have Py:Zk h.size h (g1.push (K (W.map bv).toArray 144)):=WT.YU nc _;generalize g1.push (K (W.map bv).toArray 144)=G at *;refine VS.Yj (fun F g=>Zk h.size h g/\F 0=H p (t key) c/\F 1=D y m/\F 2=H q (t ZD) cn'/\F 3=H pd (t data) cd/\F 11=H (R ⟨h.size,0,S⟩) (t data) (t data)/\F 12=D y (64*j:Nat)/\F 13=.pointer (R ⟨g1.size,0,S⟩)/\g[g1.size]? = R (K (W.map bv).toArray 144)/\∃i:Nat,64*j<=i/\i<=64*j+64/\i<=(t data)/\F 14=D y i/\g[h.size]? = R (K ((X.take i++(J (t data) 0).drop i).map bv++[]).toArray 5))
     (fun F _=>(t data)-(vi (F 14)).toNat) rfl ⟨Py,f0,f1,f2,f3,f11,f12,rfl,hxw,64*j,nc,nc,nc,rfl,NV⟩ ?_
    clear f0 f1 f2 f3 f11 f12 hxw NV UY Py hx WT;rintro F g2 ⟨Wn,f0,f1,f2,f3,f11,f12,f13,hxw,i,i1,i2,i3,f14,hx⟩;by_cases I6:i<64*j+64/\i<(t data)
    .obtain⟨l1,l2⟩:=I6;obtain⟨bd,od,rfl,gT,hcd⟩:=hcd (by intro e;rw[e]at ZU;simp at ZU);have xp:(i:Int)<min (((64*j:Nat):Int)+64) ((t data):Int):=nc;have u1:V.hc g2 ⟨bd,od+i,S⟩=R (D .u8 (data.getD i 0:Nat)):=by rw[Wn.hc (by exact gT)];exact hcd i l2
     have hik:i-64*j<64:=nc;have u2:V.hc g2 ⟨g1.size,i-64*j,S⟩=R (D .u8 (W.getD (i-64*j) 0:Nat)):=by
      rw[<-M (W.map bv)]at hxw;exact Z6 hxw (i:=i-64*j) nc
     have t1:(i:Int)-((64*j:Nat):Int)=((i-64*j:Nat):Int):=nc;have xb:=Z2 sd.byte i;have ex:=Cp (data.getD i 0) (W.getD (i-64*j) 0) xb (hWb _);have exX:X.getD i 0=data.getD i 0 ^^^ W.getD (i-64*j) 0:=by
      rw[hX,pC l2,hW];unfold ao;rw[show i/64=j by omega,show i%64=i-64*j by omega]
     rw[<-exX]at ex;have cs:QP g2 ⟨h.size,i,S⟩ (D .u8 (X.getD i 0:Nat))=_:=Yu (f:=bv) hx (i:=i) (by rw[xl];exact l2) _ rfl;rw[QX X _ i nc hXZ]at cs;simp +contextual -implicitDefEqProofs only[go_sem,f3,f12,f14,xp];have l2':(i:Int)<(t data):=nc;have t1':0<=(i:Int)-((64*j:Nat):Int):=nc;refine VS.w (g2.size) [13] (.q 0 (.q 1 (.q 2 (.q 3 (.q 4 (.q 5 (.q 6 (.q 7 (.q 8 (.q 9 (.q 10 (.q 11 (.q 12 (.w 13 .nil)))))))))))))) mixed uf ?_;have Zsg:bd<g2.size:=Nat.lt_of_lt_of_le gT Wn.size;have hgw:=Za hxw;simp +contextual -implicitDefEqProofs only[go_sem,f3,f11,f12,f13,f14,t1,Zsg,hgw,u1,u2,ex,cs];refine⟨⟨Wn.Zt (N _) _,f0,f1,f2,f3,f11,f12,f13,?_,i+1,nc,nc,nc,rfl,?_⟩,?_⟩
     .rw[Array.getElem?_setIfInBounds,if_neg nc];exact hxw
     .exact Yd hx
     .simp only[vi,Zr,↓reduceIte,f14];omega
    .have xp:¬(i:Int)<min (((64*j:Nat):Int)+64) ((t data):Int):=nc;simp +contextual -implicitDefEqProofs only[go_sem,f3,f12,f14,xp];have e12:((64*j:Nat):Int)+64=((64*(j+1):Nat):Int):=nc;refine⟨⟨Wn,f0,f1,f2,f3,f11,j+1,nc,by rw[<-e12];rfl,?_⟩,?_⟩
     .by_cases c1:i=64*j+64
      .rw[show 64*(j+1)=i by omega];exact hx
      .have e3:i=(t data):=nc;rw[O (show (t X)<=64*(j+1) by omega),Q (show (J (t data) 0).length<=64*(j+1) by simp;omega)];rw[O (show (t X)<=i by omega),Q (show (J (t data) 0).length<=i by simp;omega)]at hx;exact hx
     .simp only[vi,Zr,↓reduceIte,f12];omega
   .have Xp:¬((64*j:Nat):Int)<(t data):=nc;have e1:X.take (64*j)=X:=O nc;have e2:(J (t data) 0).drop (64*j)=[]:=Q KQ;rw[e1,e2,M,M]at hx;simp +contextual -implicitDefEqProofs only[go_sem,f3,f11,f12,Xp,hg];refine⟨_,rfl,⟨.inr ⟨h.size,(t data),[],N _,by rw[hXl],by rw[M];exact hx,Hg,by rw[hXl];simp,by rw[hXl];exact N _⟩,hXb⟩⟩
 .have em:So key k ZD (t data)=JQ key k ZD:=by unfold So;rw[if_pos e]
  rw[em];simp +contextual -implicitDefEqProofs only[go_sem,e];exact⟨_,rfl,Yx.nil _ _ _⟩
end Go.Proofs.YthlfaofofaphfaaGreatDoor
