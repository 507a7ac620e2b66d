/- Part Mix. -/
import Derived.Test.YtnhfdnlcpdbjlaaGreatDoorLchks
import Derived.Test.YtnhfdnlcpdbjlaaGreatDoorW12
open Go.Value renaming int→D,slice→H
open Go.IntKind renaming i64→y
open Go.Obj renaming cells→K
open Go.Proofs.Tryz renaming prog→Y
open List renaming length→t,replicate→J,append_nil→M,take_of_length_le→O,drop_of_length_le→Q
open Nat renaming le_refl→N
open Option renaming some→R,none→S
open Array renaming getElem?_push→U
namespace Go.Proofs.YtnhfdnlcpdbjlaaGreatDoor
open Go Go.V
set_option linter.all false
set_option maxRecDepth 100000
def gM(B:Nat)(h':Hp)(v':Value)(l:List Nat)(n:Int):Prop:=
 if (t l)<=100000/\0<=n/\n<=(t l) then ∃w,v'=.tuple [.agg [w,D y (t l)].toArray,D y 0].toArray/\YB B 5 h' w l
 else v'=.tuple [.agg [H S 0 0,D y 0].toArray,D y 5].toArray
theorem Zcf(T:World)(h:Hp)(v:Value)(n:Int)(l:List Nat)(s:Bs h v l)(hl:(t l)<=140737488355328):
  Zg Y T 41 #[.agg [v,D y n].toArray] h fun v' h'=>Zk h.size h h'/\gM h.size h' v' l n:=by
 obtain⟨p,c,rfl,Vx⟩:=s.open;refine Zg.XK [_] Tryz.func41 ?_;simp +contextual -implicitDefEqProofs only[go_sem];refine (UB T _ _ n l (s.YJ (((Zk.refl _ _).add _).add _)) hl).use ?_;rintro v1 h1 ⟨b1,o1⟩;have z1:h.size+1<h1.size:=by have:=b1.size;simp at this;omega
 have r1:=b1.get (k:=h.size+1) sW (by rw[U,if_pos sW]);have w1:=Yh r1;have bb:Zk h.size h h1:=((Zk.refl _ _).add _).add _ |>.trans (b1.mono vI)
 unfold gM;by_cases q:(t l)<=100000/\0<=n/\n<=(t l)
 .rw[if_pos q]at o1;obtain⟨w,rfl,o1⟩:=o1;obtain⟨p1,c1,rfl,_⟩:=o1.bs.open;simp +contextual -implicitDefEqProofs only[go_sem,w1,z1];refine⟨(bb.Zu mD _).add _,_,rfl,?_⟩;exact ((o1.Yi sW _).push _).mono vI
 .rw[if_neg q]at o1;subst o1;simp +contextual -implicitDefEqProofs only[go_sem,w1,z1];exact (bb.Zu mD _).add _
def Qt(l:List Nat)(n k:Int):Int:=n+(if ((t l):Int)-n<k then ((t l):Int)-n else k)
def PT(l:List Nat)(n k:Int):List Nat × Int × Int:=
 if (t l)<=100000/\0<=n/\n<=(t l) then (if k<0 then ([],0,2) else (l.take (Qt l n k).toNat,Qt l n k,0)) else ([],0,5)
def kF(B:Nat)(h':Hp)(v':Value)(r:List Nat × Int × Int):Prop:=
 ∃p c L Z E,r=(L,Z,E)/\v'=.tuple [.agg [H p (t L) c,D y Z].toArray,D y E].toArray/\Bs h' (H p (t L) c) L/\(t L)<=c/\∀b,Ya (H p (t L) c)=R b->B<=b/\b<h'.size
theorem wG(T:World)(h:Hp)(v:Value)(n k:Int)(l:List Nat)(s:Bs h v l)(hl:(t l)<=140737488355328):
  Zg Y T 28 #[.agg [v,D y n].toArray,D y k] h fun v' h'=>Zk h.size h h'/\kF h.size h' v' (PT l n k):=by
 obtain⟨p,c,rfl,Vx⟩:=s.open;refine Zg.XK [_,_] Tryz.func28 ?_;simp +contextual -implicitDefEqProofs only[go_sem];refine (UB T _ _ n l (s.YJ (((Zk.refl _ _).add _).add _)) hl).use ?_;rintro v1 h1 ⟨b1,o1⟩;have z1:h.size+1<h1.size:=by have:=b1.size;simp at this;omega
 have r1:=b1.get (k:=h.size+1) sW (by rw[U,if_pos sW]);have w1:=Yh r1;have bb:Zk h.size h h1:=((Zk.refl _ _).add _).add _ |>.trans (b1.mono vI)
 unfold PT;by_cases q:(t l)<=100000/\0<=n/\n<=(t l)
 .rw[if_pos q]at o1;obtain⟨w,rfl,o1⟩:=o1;obtain⟨p1,c1,rfl,g1⟩:=o1.open;by_cases q1:k<0
  .simp +contextual -implicitDefEqProofs only[go_sem,w1,z1,q1];exact⟨(bb.Zu mD _).add _,S,0,[],_,_,rfl,rfl,(YB.nil 0 5 _).bs,N _,fun b hb=>by simp[Ya]at hb⟩
  .have e1:0<=Qt l n k/\Qt l n k<=(t l):=by unfold Qt;split<;>omega
   have e2:(n+(if ((t l):Int)-n<k then ((t l):Int)-n else k))=Qt l n k:=rfl;have e3:((Qt l n k).toNat:Int)=Qt l n k:=mD;have e4:(l.take (Qt l n k).toNat).length=(Qt l n k).toNat:=aaa;simp +contextual -implicitDefEqProofs only[go_sem,w1,z1,q1,e2,e3];refine⟨(bb.Zu mD _).add _,p1,(Qt l n k).toNat,_,_,_,rfl,by rw[e4],?_⟩;rw[e4];have o2:=(o1.Yi (b:=h.size+1) (o:=K [H p1 (t l) c1,D y n].toArray 61) sW).push (K [H S 0 0,D y 0].toArray 61);refine⟨(((o1.Yi sW _).push _).bs).Na mD _,N _,fun b hb=>?_⟩;have EF:Ya (H p1 (t l) c1)=R b:=by
    cases p1 with
    | none=>simp[Ya]at hb
    | some A=>
     by_cases z:(Qt l n k).toNat=0
     .rw[z]at hb;simp[Ya]at hb
     .have Ca:c1≠0:=by have:=g1;omega
      simp[Ya,z]at hb;simp[Ya,Ca,hb]
   have h1b:=o1.Zr.ZZ b EF;have h2b:=o1.Zr.lt b EF;simp only[Array.size_push,Array.size_setIfInBounds];simp at h1b;omega
 .rw[if_neg q]at o1;subst o1;simp +contextual -implicitDefEqProofs only[go_sem,w1,z1];exact⟨(bb.Zu mD _).add _,S,0,[],_,_,rfl,rfl,(YB.nil 0 5 _).bs,N _,fun b hb=>by simp[Ya]at hb⟩
def Sk(key:List Nat)(k:Int)(ZD:List Nat)(n:Nat):Int:=if JJ key k ZD≠0 then JJ key k ZD else if 2000<n then 1 else 0
def Zgd(key:List Nat)(k:Nat)(ZD data:List Nat)(i:Nat):Nat:=data.getD i 0 ^^^ (Jm key (k+i/64) ZD).getD (i%64) 0
def MW(key:List Nat)(k:Nat)(ZD data:List Nat):List Nat:=(List.range (t data)).map (Zgd key k ZD data)
theorem KW(key:List Nat)(k:Nat)(ZD:List Nat)(i:Nat):(Jm key k ZD).getD i 0<256:=Z3 (Gl _ _) i
theorem wH{a b:Nat}(ha:a<256)(hb:b<256):a ^^^ b<256:=Nat.xor_lt_two_pow (n:=8) ha hb
theorem T6(key:List Nat)(k:Nat)(ZD data:List Nat):(MW key k ZD data).length=(t data):=by simp[MW]
theorem oC{key:List Nat}{k:Nat}{ZD data:List Nat}(hd:∀x∈data,x<256):∀x∈MW key k ZD data,x<256:=by
 intro x hx;obtain⟨i,_,rfl⟩:=List.mem_map.1 hx;exact wH (Z3 hd _) (KW _ _ _ _)
theorem oE{key:List Nat}{k:Nat}{ZD data:List Nat}{i:Nat}(hi:i<(t data)):(MW key k ZD data).getD i 0=Zgd key k ZD data i:=Gk _ hi
def wI(B:Nat)(h':Hp)(v':Value)(key:List Nat)(k:Int)(ZD data:List Nat):Prop:=∃w,v'=.tuple [w,D y (Sk key k ZD (t data))].toArray/\YB B 5 h' w (if Sk key k ZD (t data)=0 then MW key k.toNat ZD data else [])
theorem En{key:List Nat}{k:Int}{ZD:List Nat}(e:JJ key k ZD=0):(t key)=32/\(t ZD)=12/\0<=k/\k<=1073741824:=by
 unfold JJ at e
 repeat' split at e
 all_goals first|omega|cases e
theorem gN(n:Nat):Qa n [Value.int .u8 0]=(J n 0).map bv:=by
 induction n with
 | zero=>rfl
 | succ n ih=>rw[Qa,ih];rfl
theorem wJ(T:World)(h:Hp)(v u d:Value)(key ZD data:List Nat)(k:Int)(sk:Bs h v key)(sn:Bs h u ZD)(sd:Bs h d data)(ck:Pj v)(cn:Pj u):
  Zg Y T 85 #[v,D y k,u,d] h fun v' h'=>wI h.size h' v' key k ZD data/\Zk h.size h h':=by
 obtain⟨p,c,rfl,_⟩:=sk.open;obtain⟨q,cn',rfl,_⟩:=sn.open;obtain⟨pd,cd,rfl,hcd⟩:=sd.Vn;refine Zg.XK [_,_,_,_] Tryz.func85 ?_;unfold wI;simp +contextual -implicitDefEqProofs only[go_sem];refine (KU T _ _ _ _ _ _ _ _).pure ?_;rw[show (if (t key)≠32\/(t ZD)≠12 then (1:Int) else if k<0\/1073741824<k then 2 else 0)=JJ key k ZD from rfl];by_cases e:JJ key k ZD=0
 .by_cases el:2000<(t data)
  .have el':2000<((t data):Int):=mD;have em:Sk key k ZD (t data)=1:=by unfold Sk;rw[if_neg (by rw[e];decide),if_pos el]
   simp +contextual -implicitDefEqProofs only[go_sem,e,el',em];exact⟨_,rfl,YB.nil _ _ _⟩
  .have el':¬2000<((t data):Int):=mD;have em:Sk key k ZD (t data)=0:=by unfold Sk;rw[if_neg (by rw[e];decide),if_neg el]
   obtain⟨hk,hn,k0,k1⟩:=En e;obtain⟨m,rfl⟩:∃m:Nat,k=m:=⟨k.toNat,mD⟩
   rw[em,Int.toNat_natCast];obtain⟨X,hX⟩:=ZP (MW key m ZD data);have hXl:(t X)=(t data):=by rw[hX,T6]
   have hXb:∀x∈X,x<256:=by rw[hX];exact oC sd.byte
   have hXZ:(t X)=(J (t data) 0).length:=by simp[hXl]
   have xl:∀j,(X.take j++(J (t data) 0).drop j).length=(t data):=fun j=>by simp[hXl];omega
   rw[<-hX];simp +contextual -implicitDefEqProofs only[go_sem,e,el',gN];obtain⟨G,hG⟩:=ZP (h.push (K ((J (t data) 0).map bv).toArray 5):Hp);have OM:G[h.size]? = R (K ((X.take (64*0)++(J (t data) 0).drop (64*0)).map bv++[]).toArray 5):=by
    rw[hG,Nat.mul_zero,EP,M];exact Zd
   have hb0:Zk h.size h G:=by rw[hG];exact Zk.push (N _) _
   rw[<-hG];clear hG;refine VS.Yq (fun F g=>Zk h.size h g/\F 0=H p (t key) c/\F 1=D y m/\F 2=H q (t ZD) cn'/\F 3=H pd (t data) cd/\F 11=H (R ⟨h.size,0,S⟩) (t data) (t data)/\∃j:Nat,64*j<(t data)+64/\F 12=D y (64*j:Nat)/\g[h.size]? = R (K ((X.take (64*j)++(J (t data) 0).drop (64*j)).map bv++[]).toArray 5))
    (fun F _=>(t data)+64-(vi (F 12)).toNat) rfl ⟨hb0,rfl,rfl,rfl,rfl,rfl,0,mD,rfl,OM⟩ ?_
   clear OM hb0 G;rintro F g ⟨hg,f0,f1,f2,f3,f11,j,hj,f12,hx⟩;have PQ:=Za hx;by_cases ZV:64*j<(t data)
   .have Z4:((64*j:Nat):Int)<(t data):=mD;have d1:((64*j:Nat):Int).tdiv 64=(j:Int):=by
     have:((64*j:Nat):Int).tdiv 64=((64*j/64:Nat):Int):=rfl;rw[this];omega
    have d2:(m:Int)+(j:Int)=((m+j:Nat):Int):=mD;have d3:((m+j:Nat):Int)%4294967296=((m+j:Nat):Int):=mD;simp +contextual -implicitDefEqProofs only[go_sem,f0,f1,f2,f3,f12,Z4,d1,d2,d3];refine (MU T _ _ _ key ZD (m+j) (sk.YJ hg) (sn.YJ hg) hk hn mD ck cn).use ?_;rintro _ g1 ⟨rfl,b1⟩;have Gm:((Jm key (m+j) ZD).map bv).length=64:=by simp[Jm,Ek]
    have X1:=Ru (Jm key (m+j) ZD);have sX:(Jm key (m+j) ZD).length=64:=by simpa using Gm
    have UO:=b1.get PQ hx;have WC:=hg.trans (b1.mono hg.size);have b1s:=b1.size;obtain⟨W,hW⟩:=ZP (Jm key (m+j) ZD);have hWb:∀i,W.getD i 0<256:=fun i=>by rw[hW];exact KW _ _ _ _
    rw[<-hW]at Gm X1 sX ⊢;simp +contextual -implicitDefEqProofs only[go_sem,Gm,X1,Yb,f12];have hxw:(g1.push (K (W.map bv++[]).toArray 201))[g1.size]? = R (K (W.map bv++[]).toArray 201):=Zd;rw[M]at hxw;have NX:(g1.push (K (W.map bv).toArray 201))[h.size]? = R (K ((X.take (64*j)++(J (t data) 0).drop (64*j)).map bv++[]).toArray 5):=by rw[ZF mD];exact UO
    have Py:Zk h.size h (g1.push (K (W.map bv).toArray 201)):=WC.Y1 mD _;generalize g1.push (K (W.map bv).toArray 201)=G at *;refine VS.Yq (fun F g=>Zk h.size h g/\F 0=H p (t key) c/\F 1=D y m/\F 2=H q (t ZD) cn'/\F 3=H pd (t data) cd/\F 11=H (R ⟨h.size,0,S⟩) (t data) (t data)/\F 12=D y (64*j:Nat)/\F 13=.pointer (R ⟨g1.size,0,S⟩)/\g[g1.size]? = R (K (W.map bv).toArray 201)/\∃i:Nat,64*j<=i/\i<=64*j+64/\i<=(t data)/\F 14=D y i/\g[h.size]? = R (K ((X.take i++(J (t data) 0).drop i).map bv++[]).toArray 5))
     (fun F _=>(t data)-(vi (F 14)).toNat) rfl ⟨Py,f0,f1,f2,f3,f11,f12,rfl,hxw,64*j,mD,mD,mD,rfl,NX⟩ ?_
    clear f0 f1 f2 f3 f11 f12 hxw NX UO Py hx WC;rintro F g2 ⟨U1,f0,f1,f2,f3,f11,f12,f13,hxw,i,i1,i2,i3,f14,hx⟩;by_cases L9:i<64*j+64/\i<(t data)
    .obtain⟨l1,l2⟩:=L9;obtain⟨bd,od,rfl,gO,hcd⟩:=hcd (by intro e;rw[e]at ZV;simp at ZV);have wM:(i:Int)<min (((64*j:Nat):Int)+64) ((t data):Int):=mD;have u1:V.hc g2 ⟨bd,od+i,S⟩=R (D .u8 (data.getD i 0:Nat)):=by rw[U1.hc (by exact gO)];exact hcd i l2
     have hik:i-64*j<64:=mD;have u2:V.hc g2 ⟨g1.size,i-64*j,S⟩=R (D .u8 (W.getD (i-64*j) 0:Nat)):=by
      rw[<-M (W.map bv)]at hxw;exact Z7 hxw (i:=i-64*j) mD
     have t1:(i:Int)-((64*j:Nat):Int)=((i-64*j:Nat):Int):=mD;have xb:=Z3 sd.byte i;have ex:=D7 (data.getD i 0) (W.getD (i-64*j) 0) xb (hWb _);have exX:X.getD i 0=data.getD i 0 ^^^ W.getD (i-64*j) 0:=by
      rw[hX,oE l2,hW];unfold Zgd;rw[show i/64=j by omega,show i%64=i-64*j by omega]
     rw[<-exX]at ex;have cs:QF g2 ⟨h.size,i,S⟩ (D .u8 (X.getD i 0:Nat))=_:=Yz (f:=bv) hx (i:=i) (by rw[xl];exact l2) _ rfl;rw[QN X _ i mD hXZ]at cs;simp +contextual -implicitDefEqProofs only[go_sem,f3,f12,f14,wM];have l2':(i:Int)<(t data):=mD;have t1':0<=(i:Int)-((64*j:Nat):Int):=mD;refine VS.z (g2.size) [13] (.p 0 (.p 1 (.p 2 (.p 3 (.p 4 (.q 5 (.p 6 (.p 7 (.p 8 (.p 9 (.q 10 (.p 11 (.p 12 (.w 13 .nil)))))))))))))) mixed sV ?_;have Zsm:bd<g2.size:=Nat.lt_of_lt_of_le gO U1.size;have hgw:=Za hxw;simp +contextual -implicitDefEqProofs only[go_sem,f3,f11,f12,f13,f14,t1,Zsm,hgw,u1,u2,ex,cs];refine⟨⟨U1.Zu (N _) _,f0,f1,f2,f3,f11,f12,f13,?_,i+1,mD,mD,mD,rfl,?_⟩,?_⟩
     .rw[Array.getElem?_setIfInBounds,if_neg mD];exact hxw
     .exact Yd hx
     .simp only[vi,Zt,↓reduceIte,f14];omega
    .have wM:¬(i:Int)<min (((64*j:Nat):Int)+64) ((t data):Int):=mD;simp +contextual -implicitDefEqProofs only[go_sem,f3,f12,f14,wM];have e12:((64*j:Nat):Int)+64=((64*(j+1):Nat):Int):=mD;refine⟨⟨U1,f0,f1,f2,f3,f11,j+1,mD,by rw[<-e12];rfl,?_⟩,?_⟩
     .by_cases c1:i=64*j+64
      .rw[show 64*(j+1)=i by omega];exact hx
      .have e3:i=(t data):=mD;rw[O (show (t X)<=64*(j+1) by omega),Q (show (J (t data) 0).length<=64*(j+1) by simp;omega)];rw[O (show (t X)<=i by omega),Q (show (J (t data) 0).length<=i by simp;omega)]at hx;exact hx
     .simp only[vi,Zt,↓reduceIte,f12];omega
   .have Xw:¬((64*j:Nat):Int)<(t data):=mD;have e1:X.take (64*j)=X:=O mD;have e2:(J (t data) 0).drop (64*j)=[]:=Q vI;rw[e1,e2,M,M]at hx;simp +contextual -implicitDefEqProofs only[go_sem,f3,f11,f12,Xw,hg];refine⟨_,rfl,⟨.inr ⟨h.size,(t data),[],N _,by rw[hXl],by rw[M];exact hx,sW,by rw[hXl];simp,by rw[hXl];exact N _⟩,hXb⟩⟩
 .have em:Sk key k ZD (t data)=JJ key k ZD:=by unfold Sk;rw[if_pos e]
  rw[em];simp +contextual -implicitDefEqProofs only[go_sem,e];exact⟨_,rfl,YB.nil _ _ _⟩
end Go.Proofs.YtnhfdnlcpdbjlaaGreatDoor
