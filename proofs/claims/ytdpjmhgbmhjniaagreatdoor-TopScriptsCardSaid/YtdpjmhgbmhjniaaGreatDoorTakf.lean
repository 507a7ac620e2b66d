/- Part Takf. -/
import Derived.Test.YtdpjmhgbmhjniaaGreatDoorPolg
import Derived.Test.YtdpjmhgbmhjniaaGreatDoorMix
import Derived.Test.YtdpjmhgbmhjniaaGreatDoorBytes
import Derived.Test.YtdpjmhgbmhjniaaGreatDoorVst
import Derived.Test.YtdpjmhgbmhjniaaGreatDoorW15
import Derived.Test.YtdpjmhgbmhjniaaGreatDoorLine
import Derived.Test.YtdpjmhgbmhjniaaGreatDoorW13
open Go.Value renaming slice→A,bool→H,int→L,pointer→ao
open Go.IntKind renaming i64→D
open Go.Obj renaming cells→K
open Go.Proofs.Tryz renaming underlying39→U,prog→Z
open List renaming length→y,replicate→am,length_append→av
open Nat renaming le_refl→Q,shiftRight_eq_div_pow→aw
open Int renaming toNat_natCast→W
open Option renaming some→M,none→R
open Array renaming size_push→O,getElem?_setIfInBounds→X,getElem?_push→Y
open Bool renaming false_or→ay
open Go.IntWalk renaming iteOmega→aa
open Go renaming Value→al
namespace Go.Proofs.YtdpjmhgbmhjniaaGreatDoor
open Go Go.V
set_option linter.all false
set_option maxRecDepth 100000
variable(T:World)
def jT(l:List Nat):List Nat:=l++am ((16-(y l)%16)%16) 0
def CQ(n:Nat):List Nat:=(List.range 8).map fun i=>n/256 ^ i%256
def Tp(Zp JO:List Nat):List Nat:=jT Zp++jT JO++CQ (y Zp)++CQ (y JO)
def Q4(key Zz Zp JO:List Nat):List Nat:=bW ((XO key 0 Zz).take 32) (Tp Zp JO)
theorem CR(l:List Nat):(jT l).length=(y l)+(16-(y l)%16)%16:=by simp[jT]
theorem Km(l:List Nat):(jT l).length<=(y l)+15:=by rw[CR];omega
theorem J4(n:Nat):(CQ n).length=8:=by simp[CQ]
theorem Fb(h:Hp)(v:al)(l:List Nat)(s:Bs h v l)(hl:(y l)<=4000):
  Zc Z T 105 #[v] h fun v' h'=>Yd h.size 5 h' v' (jT l)/\Zf h.size h h':=by
 obtain⟨p,c,rfl,UX⟩:=s.open;refine Zc.Y8 [_] Tryz.func105 ?_;simp -implicitDefEqProofs only[go_sem];refine ZF (E:=5) (B:=h.size) YN U WS VC VB (Yd.nil _ _ _) (Q _) s L6 ?_;intro v1 h1 o1 b1 _;rw[List.nil_append]at o1;have e1:(((y l):Nat):Int).tmod 16=(((y l)%16:Nat):Int):=rfl;have e2:(16:Int)-(((y l)%16:Nat):Int)=((16-(y l)%16:Nat):Int):=gX;have e3:((16-(y l)%16:Nat):Int).tmod 16=(((16-(y l)%16)%16:Nat):Int):=rfl;simp -implicitDefEqProofs only[go_sem,e1,e2,e3];refine K0 (E:=5) (B:=h.size) YN Tryz.underlying3 WS VC VB o1 b1.size gX ?_;intro v2 h2 o2 b2 _;simp -implicitDefEqProofs only[go_sem];exact⟨o2,b1.trans b2⟩
theorem Fc(h:Hp)(n:Nat)(hn:n<9223372036854775808):
  Zc Z T 106 #[L D n] h fun v' h'=>Yd h.size 5 h' v' (CQ n)/\Zf h.size h h':=by
 refine Zc.Y8 [_] Tryz.func106 ?_;simp -implicitDefEqProofs only[go_sem];refine VS.Z9 (fun F g=>Zf h.size h g/\F 0=L D n/\∃j:Nat,j<=8/\F 4=L D (8*j:Nat)/\Yd h.size 5 g (F 3) ((CQ n).take j))
  (fun F _=>64-(vi (F 4)).toNat) rfl ⟨Zf.refl _ _,rfl,0,gX,rfl,Yd.nil _ _ _⟩ ?_
 rintro F g ⟨hg,f0,j,hj,f4,ho⟩;have Pd:=hg.size;by_cases ZL:j<8
 .have ZW:((8*j:Nat):Int)<64:=gX;have e1:Xw D (n:Int) ((8*j:Nat):Int)=((n/256 ^ j:Nat):Int):=by
   rw[RB D n (8*j) (by show 8*j<=64;omega),aw,Nat.pow_mul]
  have e2:((n/256 ^ j:Nat):Int)%256=((n/256 ^ j%256:Nat):Int):=rfl;have e3:¬((8*j:Nat):Int)<0:=gX;have e4:((8*j:Nat):Int)+8=((8*(j+1):Nat):Int):=gX;simp -implicitDefEqProofs only[go_sem,f0,f4,ZW,e1,e2,e3];have hX:n/256 ^ j%256<256:=Nat.mod_lt _ MZ;refine ZF (E:=5) (B:=h.size) YN U WS VC VB (ho.push _) L6 (Bs.one hX 1) (by simp[J4];omega) ?_;intro v' h' PW Jc _;simp -implicitDefEqProofs only[go_sem,f0,f4,e4];refine⟨⟨(hg.Yx Pd _).trans Jc,f0,j+1,ZL,rfl,?_⟩,?_⟩
  .rw[Yp _ j (by rw[J4];exact ZL)];have e:(CQ n)[j]'(by rw[J4];exact ZL)=n/256 ^ j%256:=by simp[CQ]
   rw[e];exact PW
  .simp only[vi,Zk,↓reduceIte,f4];omega
 .have YU:¬((8*j:Nat):Int)<64:=gX;obtain rfl:j=8:=gX;rw[List.take_of_length_le (by rw[J4];exact Q _)]at ho;simp -implicitDefEqProofs only[go_sem,f0,f4,YU];exact⟨ho,hg⟩
theorem PJ{key Zz:List Nat}{k:Int}(hk:(y key)=32)(hn:(y Zz)=12)(h0:0<=k)(h1:k<=1073741824):X2 key k Zz=0:=by
 unfold X2;rw[if_neg gX,if_neg gX]
theorem Gj(key:List Nat)(k:Nat)(Zz:List Nat):(XO key k Zz).length=64:=by simp[XO,Ge]
theorem CS{Zp JO:List Nat}(hk:(y Zp)<=256)(hs:(y JO)<=2000):(Tp Zp JO).length<=2400:=by
 unfold Tp;have h1:=Km Zp;have h2:=Km JO;simp only[av,J4];omega
theorem CT{key data:List Nat}(hk:(y key)=32)(hd:(y data)<=4000):VK key data=0:=by
 unfold VK;rw[if_neg gX]
set_option maxHeartbeats 1000000 in
theorem Lh(h:Hp)(v u kn sv:al)(key Zz Zp JO:List Nat)(sk:Bs h v key)(sn:Bs h u Zz)(sw:Bs h kn Zp)(ss:Bs h sv JO)(hk:(y key)=32)(hn:(y Zz)=12)(hw:(y Zp)<=256)(hs:(y JO)<=2000)(ck:Sn v)(cn:Sn u):
  Zc Z T 78 #[v,u,kn,sv] h fun v' h'=>Yd h.size 5 h' v' (Q4 key Zz Zp JO)/\Zf h.size h h':=by
 obtain⟨pw,cw,rfl,_⟩:=sw.open;obtain⟨ps,cs,rfl,_⟩:=ss.open;refine Zc.Y8 [_,_,_,_] Tryz.func78 ?_;simp -implicitDefEqProofs only[go_sem];refine (qd T _ _ _ key Zz 0 sk sn ck cn).use ?_;rintro _ h1 ⟨⟨w1,rfl,o1⟩,b1⟩;have e0:=PJ (k:=0) hk hn MZ MZ;rw[e0,if_pos rfl]at o1;rw[e0];have o1:Yd h.size 5 h1 w1 (XO key 0 Zz):=o1;have z1:=b1.size;simp -implicitDefEqProofs only[go_sem];refine (Fb T _ _ Zp (sw.Yb b1) gX).use ?_;rintro v2 h2 ⟨o2,b2⟩;have z2:=b2.size;have B2:=b1.trans (b2.mono z1);simp -implicitDefEqProofs only[go_sem];refine (Fb T _ _ JO (ss.Yb B2) gX).use ?_;rintro v3 h3 ⟨o3,b3⟩;have z3:=b3.size;have B3:=B2.trans (b3.mono gX);have l1:=Km Zp;have l2:=Km JO;simp -implicitDefEqProofs only[go_sem];refine ZF (E:=5) (B:=h1.size) YN U WS VC VB (o2.Yb b3 (Q _)) gX o3.bs gX ?_;intro v4 h4 o4 b4 _;have z4:=b4.size;simp -implicitDefEqProofs only[go_sem];refine (Fc T _ (y Zp) gX).use ?_;rintro v5 h5 ⟨o5,b5⟩;have z5:=b5.size;simp -implicitDefEqProofs only[go_sem];refine ZF (E:=5) (B:=h1.size) YN U WS VC VB (o4.Yb b5 (Q _)) gX o5.bs (by simp only[av,J4];omega) ?_;intro v6 h6 o6 b6 _;have z6:=b6.size;simp -implicitDefEqProofs only[go_sem];refine (Fc T _ (y JO) gX).use ?_;rintro v7 h7 ⟨o7,b7⟩;have z7:=b7.size;simp -implicitDefEqProofs only[go_sem];refine ZF (E:=5) (B:=h1.size) YN U WS VC VB (o6.Yb b7 (Q _)) gX o7.bs (by simp only[av,J4];omega) ?_;intro v8 h8 o8 b8 _;have z8:=b8.size;have o8:Yd h1.size 5 h8 v8 (Tp Zp JO):=o8;have B8:Zf h1.size h1 h8:=(((((b2.trans (b3.mono z2)).trans b4).trans (b5.mono gX)).trans b6).trans (b7.mono gX)).trans b8;have o1':=o1.Yb B8 (Q _);have mH:=Gj key 0 Zz;obtain⟨pb,cb,rfl,FM⟩:=o1'.open;rw[mH]at FM o1' ⊢;have s32:=RN o1'.bs (m:=32) gX cb;have c32:(32:Int)<=cb:=gX;have l32:((XO key 0 Zz).take 32).length=32:=aac;have hd:=CS hw hs;simp -implicitDefEqProofs only[go_sem,c32];refine (CP T _ _ _ ((XO key 0 Zz).take 32) (Tp Zp JO) s32 o8.bs (show 32<=cb by omega) o8.cap).use ?_;rintro _ h9 ⟨⟨w9,rfl,o9⟩,b9⟩;have e9:=CT (data:=Tp Zp JO) l32 gX;rw[e9,if_pos rfl]at o9;rw[e9];simp -implicitDefEqProofs only[go_sem];exact⟨o9.mono gX,(b1.trans (B8.mono z1)).trans (b9.mono gX)⟩
def Jy(k n w m XP:Nat):Int:=if k≠32\/n≠12\/256<w\/XP<m then 1 else 0
theorem Nl{k n w m XP:Nat}(e:Jy k n w m XP=0):k=32/\n=12/\w<=256/\m<=XP:=by
 unfold Jy at e;split at e
 .cases e
 .omega
theorem Li{k n w m XP:Nat}(e:¬Jy k n w m XP=0):Jy k n w m XP=1:=by
 unfold Jy at e ⊢;split
 .rfl
 .rename_i h;rw[if_neg h]at e;exact (e rfl).elim
theorem Nm(h:Hp)(p q r s:Option Addr)(k n w m c1 c2 c3 c4 XP:Nat):
  Zc Z T 77 #[A p k c1,A q n c2,A r w c3,A s m c4,L D XP] h fun v' h'=>v'=L D (Jy k n w m XP)/\h'=h:=by
 refine Zc.Y8 [_,_,_,_,_] Tryz.func77 ?_;unfold Jy;by_cases q0:k=32
 ·
  by_cases q1:n=12
  ·
   by_cases q2:w<=256
   ·
    by_cases q3:m<=XP
    ·
     have c0:(k:Int)=32\/¬(k:Int)=32:=gX;have c1:(n:Int)=12\/¬(n:Int)=12:=gX;have c2:256<(w:Int)\/¬256<(w:Int):=gX;have c3:(XP:Int)<(m:Int)\/¬(XP:Int)<(m:Int):=gX;rcases c0 with c0|c0<;>rcases c1 with c1|c1<;>rcases c2 with c2|c2<;>rcases c3 with c3|c3<;>first
      | (exfalso;omega)
      | (rw[if_neg gX];simp -implicitDefEqProofs only[go_sem,c0,c1,c2,c3])
      | (rw[if_pos gX];simp -implicitDefEqProofs only[go_sem,c0,c1,c2,c3])
    ·
     have c0:(k:Int)=32\/¬(k:Int)=32:=gX;have c1:(n:Int)=12\/¬(n:Int)=12:=gX;have c2:256<(w:Int)\/¬256<(w:Int):=gX;have c3:(XP:Int)<(m:Int)\/¬(XP:Int)<(m:Int):=gX;rcases c0 with c0|c0<;>rcases c1 with c1|c1<;>rcases c2 with c2|c2<;>rcases c3 with c3|c3<;>first
      | (exfalso;omega)
      | (rw[if_neg gX];simp -implicitDefEqProofs only[go_sem,c0,c1,c2,c3])
      | (rw[if_pos gX];simp -implicitDefEqProofs only[go_sem,c0,c1,c2,c3])
   ·
    have c0:(k:Int)=32\/¬(k:Int)=32:=gX;have c1:(n:Int)=12\/¬(n:Int)=12:=gX;have c2:256<(w:Int)\/¬256<(w:Int):=gX;have c3:(XP:Int)<(m:Int)\/¬(XP:Int)<(m:Int):=gX;rcases c0 with c0|c0<;>rcases c1 with c1|c1<;>rcases c2 with c2|c2<;>rcases c3 with c3|c3<;>first
     | (exfalso;omega)
     | (rw[if_neg gX];simp -implicitDefEqProofs only[go_sem,c0,c1,c2,c3])
     | (rw[if_pos gX];simp -implicitDefEqProofs only[go_sem,c0,c1,c2,c3])
  ·
   have c0:(k:Int)=32\/¬(k:Int)=32:=gX;have c1:(n:Int)=12\/¬(n:Int)=12:=gX;have c2:256<(w:Int)\/¬256<(w:Int):=gX;have c3:(XP:Int)<(m:Int)\/¬(XP:Int)<(m:Int):=gX;rcases c0 with c0|c0<;>rcases c1 with c1|c1<;>rcases c2 with c2|c2<;>rcases c3 with c3|c3<;>first
    | (exfalso;omega)
    | (rw[if_neg gX];simp -implicitDefEqProofs only[go_sem,c0,c1,c2,c3])
    | (rw[if_pos gX];simp -implicitDefEqProofs only[go_sem,c0,c1,c2,c3])
 ·
  have c0:(k:Int)=32\/¬(k:Int)=32:=gX;have c1:(n:Int)=12\/¬(n:Int)=12:=gX;have c2:256<(w:Int)\/¬256<(w:Int):=gX;have c3:(XP:Int)<(m:Int)\/¬(XP:Int)<(m:Int):=gX;rcases c0 with c0|c0<;>rcases c1 with c1|c1<;>rcases c2 with c2|c2<;>rcases c3 with c3|c3<;>first
   | (exfalso;omega)
   | (rw[if_neg gX];simp -implicitDefEqProofs only[go_sem,c0,c1,c2,c3])
   | (rw[if_pos gX];simp -implicitDefEqProofs only[go_sem,c0,c1,c2,c3])
def Fe(key Zz Zp plain:List Nat):List Nat:=Nb key 1 Zz plain++Q4 key Zz Zp (Nb key 1 Zz plain)
def fP(B:Nat)(h':Hp)(v':al)(key Zz Zp plain:List Nat):Prop:=∃w,v'=.tuple [w,L D (Jy (y key) (y Zz) (y Zp) (y plain) 2000)].toArray/\Yd B 5 h' w (if Jy (y key) (y Zz) (y Zp) (y plain) 2000=0 then Fe key Zz Zp plain else [])
theorem Lj{key Zz:List Nat}{k:Int}{n:Nat}(hk:(y key)=32)(hn:(y Zz)=12)(h0:0<=k)(h1:k<=1073741824)(hm:n<=2000):VG key k Zz n=0:=by
 unfold VG;rw[PJ hk hn h0 h1,if_neg Dq,if_neg gX]
theorem Kn(key data:List Nat):(bW key data).length<=16:=by rw[CG];exact Q _
theorem yc(h:Hp)(v u kn sv:al)(key Zz Zp plain:List Nat)(sk:Bs h v key)(sn:Bs h u Zz)(sw:Bs h kn Zp)(ss:Bs h sv plain)(ck:Sn v)(cn:Sn u):
  Zc Z T 123 #[v,u,kn,sv] h fun v' h'=>fP h.size h' v' key Zz Zp plain/\Zf h.size h h':=by
 obtain⟨p,c,rfl,_⟩:=sk.open;obtain⟨q,d,rfl,_⟩:=sn.open;obtain⟨pw,cw,rfl,_⟩:=sw.open;obtain⟨ps,cs,rfl,_⟩:=ss.open;refine Zc.Y8 [_,_,_,_] Tryz.func123 ?_;unfold fP;simp -implicitDefEqProofs only[go_sem];refine (Nm T _ _ _ _ _ _ _ _ _ _ _ _ _ 2000).pure ?_;by_cases e:Jy (y key) (y Zz) (y Zp) (y plain) 2000=0
 .obtain⟨hk,hn,hw,hs⟩:=Nl e;rw[e,if_pos rfl];simp -implicitDefEqProofs only[go_sem,e];refine (qi T _ _ _ _ key Zz plain 1 sk sn ss ck cn).use ?_;rintro _ h1 ⟨⟨w1,rfl,o1⟩,b1⟩;have e1:=Lj (k:=1) hk hn MZ MZ hs;rw[e1,if_pos rfl]at o1;rw[e1];have o1:Yd h.size 5 h1 w1 (Nb key 1 Zz plain):=o1;have z1:=b1.size;have l1:=Vo key 1 Zz plain;simp -implicitDefEqProofs only[go_sem];refine (Lh T _ _ _ _ _ key Zz Zp (Nb key 1 Zz plain) (sk.Yb b1) (sn.Yb b1) (sw.Yb b1) o1.bs hk hn hw gX ck cn).use ?_;rintro v2 h2 ⟨o2,b2⟩;have l2:(Q4 key Zz Zp (Nb key 1 Zz plain)).length<=16:=Kn _ _;have z2:=b2.size;simp -implicitDefEqProofs only[go_sem];refine ZF (E:=5) (B:=h.size) YN U WS VC VB (o1.Yb b2 (Q _)) gX o2.bs gX ?_;intro v3 h3 o3 b3 _;simp -implicitDefEqProofs only[go_sem];exact⟨⟨_,rfl,o3⟩,(b1.trans (b2.mono z1)).trans b3⟩
 .have e1:=Li e;rw[if_neg e];simp -implicitDefEqProofs only[go_sem,e1];exact⟨_,rfl,Yd.nil _ _ _⟩
theorem Ff(a:Option Addr)(c:Nat):bB a 1 c 0=a:=by
 unfold bB;split
 .rfl
 .cases a with
  | none=>rfl
  | some a=>simp[Addr.add]
def Nn(key Zz Zp data:List Nat):Int:=if Jy (y key) (y Zz) (y Zp) (y data) 2016≠0 then 1 else if (y data)<16 then 13 else if Q4 key Zz Zp (data.take ((y data)-16))≠data.drop ((y data)-16) then 6 else 0
def qD(key Zz data:List Nat):List Nat:=Nb key 1 Zz (data.take ((y data)-16))
def fQ(B:Nat)(h':Hp)(v':al)(key Zz Zp data:List Nat):Prop:=∃w,v'=.tuple [w,L D (Nn key Zz Zp data)].toArray/\Yd B 5 h' w (if Nn key Zz Zp data=0 then qD key Zz data else [])
theorem ye(h:Hp)(v u kn sv:al)(key Zz Zp data:List Nat)(sk:Bs h v key)(sn:Bs h u Zz)(sw:Bs h kn Zp)(ss:Bs h sv data)(ck:Sn v)(cn:Sn u)(cs:Sn sv):
  Zc Z T 45 #[v,u,kn,sv] h fun v' h'=>fQ h.size h' v' key Zz Zp data/\Zf h.size h h':=by
 obtain⟨p,c,rfl,_⟩:=sk.open;obtain⟨q,d,rfl,_⟩:=sn.open;obtain⟨pw,cw,rfl,_⟩:=sw.open;obtain⟨ps,cd,rfl,_⟩:=ss.open;have cs:(y data)<=cd:=cs;refine Zc.Y8 [_,_,_,_] Tryz.func45 ?_;unfold fQ;simp -implicitDefEqProofs only[go_sem];refine (Nm T _ _ _ _ _ _ _ _ _ _ _ _ _ 2016).pure ?_;have qE:Nn key Zz Zp data=if Jy (y key) (y Zz) (y Zp) (y data) 2016≠0 then 1 else if (y data)<16 then 13 else if Q4 key Zz Zp (data.take ((y data)-16))≠data.drop ((y data)-16) then 6 else 0:=rfl
 by_cases e:Jy (y key) (y Zz) (y Zp) (y data) 2016=0
 .obtain⟨hk,hn,hw,hs⟩:=Nl e;rw[if_neg (by simp[e])]at qE;by_cases h16:(y data)<16
  .rw[if_pos h16]at qE;rw[qE];have n0:((y data):Int)-16<0:=gX;simp -implicitDefEqProofs only[go_sem,e,n0];exact⟨_,rfl,Yd.nil _ _ _⟩
  .rw[if_neg h16]at qE;have n0:¬(((y data)-16:Nat):Int)<0:=gX;have n1:((y data):Int)-16=(((y data)-16:Nat):Int):=gX;have sfr:=RN ss (m:=(y data)-16) gX cd;have sbk:=RI ss rfl (k:=(y data)-16) gX cs (cd-((y data)-16));have lfr:(data.take ((y data)-16)).length=(y data)-16:=aac;have ZhJ:(((y data)-16:Nat):Int)<=cd:=gX;have ZpV:(((y data)-16:Nat):Int)<=(y data):=gX;simp -implicitDefEqProofs only[go_sem,e,n1,n0];refine VS.w (h.size) [] (.q 0 (.q 1 (.q 2 (.q 3 (.q 4 (.q 5 (.q 7 (.q 8 (.q 9 (.s 6 (.s 10 (.q 11 .nil)))))))))))) mixed po ?_;simp -implicitDefEqProofs only[go_sem,ZhJ,ZpV,W,Uv,Ff];refine (Lh T _ _ _ _ _ key Zz Zp (data.take ((y data)-16)) sk sn sw sfr hk hn hw gX ck cn).use ?_;rintro v1 h1 ⟨o1,b1⟩;have l1:(Q4 key Zz Zp (data.take ((y data)-16))).length<=16:=Kn _ _;simp -implicitDefEqProofs only[go_sem,b1];refine (Ep T _ _ _ _ _ o1.bs (sbk.Yb b1) gX).pure ?_;obtain⟨S,hS⟩:=ZD (Q4 key Zz Zp (data.take ((y data)-16)));rw[<-hS]at qE ⊢;by_cases ht:S=data.drop ((y data)-16)
   .rw[if_neg (by simp[ht])]at qE;rw[qE,if_pos rfl];have ht':decide (S=data.drop ((y data)-16))=true:=decide_eq_true ht;simp -implicitDefEqProofs only[go_sem,b1,ht',ZhJ,Uv,Ff];refine (qi T _ _ _ _ key Zz (data.take ((y data)-16)) 1 (sk.Yb b1) (sn.Yb b1) (sfr.Yb b1) ck cn).use ?_;rintro _ h2 ⟨⟨w2,rfl,o2⟩,b2⟩;have e2:=Lj (k:=1) hk hn MZ MZ (show (data.take ((y data)-16)).length<=2000 by omega);rw[e2,if_pos rfl]at o2;rw[e2];have o2:Yd h1.size 5 h2 w2 (qD key Zz data):=o2;simp -implicitDefEqProofs only[go_sem];exact⟨⟨_,rfl,o2.mono b1.size⟩,b1.trans (b2.mono b1.size)⟩
   .rw[if_pos ht]at qE;rw[qE];have ht':decide (S=data.drop ((y data)-16))=false:=decide_eq_false ht;simp -implicitDefEqProofs only[go_sem,b1,ht'];exact⟨_,rfl,Yd.nil _ _ _⟩
 .have e1:=Li e;rw[if_pos e]at qE;rw[qE];simp -implicitDefEqProofs only[go_sem,e1];exact⟨_,rfl,Yd.nil _ _ _⟩
def Xa(n:Nat):List Nat:=[n/16777216%256,n/65536%256,n/256%256,n%256]
theorem cG(n:Nat):∀x∈Xa n,x<256:=by
 intro x hx;simp only[Xa,List.mem_cons,List.not_mem_nil,or_false]at hx;omega
theorem IM(n k:Nat)(hk:k<=64):Xw D (n:Int) (k:Int)=((n/2 ^ k:Nat):Int):=by
 rw[RB D n k hk,aw]
theorem CU(h:Hp)(n:Nat)(hn:n<=1073741824):
  Zc Z T 122 #[L D n] h fun v' h'=>Yd h.size 5 h' v' (Xa n)/\Zf h.size h h':=by
 refine Zc.Y8 [_] Tryz.func122 ?_;have e1:Xw D (n:Int) 24%256=((n/16777216%256:Nat):Int):=by rw[show (24:Int)=((24:Nat):Int) from rfl,IM n 24 gX];omega
 have e2:Xw D (n:Int) 16%256=((n/65536%256:Nat):Int):=by rw[show (16:Int)=((16:Nat):Int) from rfl,IM n 16 gX];omega
 have e3:Xw D (n:Int) 8%256=((n/256%256:Nat):Int):=by rw[show (8:Int)=((8:Nat):Int) from rfl,IM n 8 gX];omega
 have e4:(n:Int)%256=((n%256:Nat):Int):=gX;simp -implicitDefEqProofs only[go_sem,e1,e2,e3,e4];exact Yd.made (l:=Xa n) (cG n) (Q _)
def Jz(l:List Nat):List Nat:=am 8 0++l
theorem Zdd:(Jl 12 [Value.int .u8 0])=(am 12 0).map bv:=rfl
theorem No(h:Hp)(v:al)(l:List Nat)(s:Bs h v l)(hl:(y l)<=1000):
  Zc Z T 46 #[v] h fun v' h'=>Yd h.size 5 h' v' (Jz l)/\Zf h.size h h':=by
 refine Zc.Y8 [_] Tryz.func46 ?_;simp -implicitDefEqProofs only[go_sem,Zdd];have o1:Yd h.size 5 (h.push (K ((am 12 0).map bv).toArray 5)) (A (M ⟨h.size,0,R⟩) 8 12) (am 8 0):=by
  refine⟨.inr ⟨h.size,12,(am 4 0).map bv,Q _,rfl,?_,Dq,Dq,Dq⟩,fun x hx=>by rw[List.eq_of_mem_replicate hx];decide⟩;rw[Zb,<-List.map_append];rfl
 refine ZF (E:=5) (B:=h.size) YN U WS VC VB o1 Dq (s.Yb (Zf.push (Q _) _)) L6 ?_;intro v' h' PW Jc _;simp -implicitDefEqProofs only[go_sem];exact⟨PW,(Zf.push (Q _) _).trans Jc⟩
def Vr(n:Nat)(ZU Z4:Int)(s:List Bool)(m:Nat):Int:=if XE n ZU Z4 s≠0 then 5 else if 2000<m then 1 else if ZU=1073741824 then 8 else 0
def J6:List Bool:=[false,false,false,false,false,false,false,false]
def cH(kl:List Nat)(n:Nat)(plain:List Nat):List Nat:=Xa n++Fe kl (Jz (Xa n)) (Xa n) plain
def fR(B:Nat)(h':Hp)(cw:al)(e:Int)(kl:List Nat)(ZU Z4:Int)(s:List Bool):Prop:=Et B h' cw (if e=0 then kl else []) (if e=0 then ZU else 0) (if e=0 then Z4 else 0) (if e=0 then s else J6)
def EK(B:Nat)(h':Hp)(v':al)(kl:List Nat)(ZU Z4:Int)(s:List Bool)(plain:List Nat):Prop:=∃cw w,v'=.tuple [cw,w,L D (Vr (y kl) ZU Z4 s (y plain))].toArray /\
 fR B h' cw (Vr (y kl) ZU Z4 s (y plain)) kl (ZU+1) Z4 s/\Yd B 5 h' w (if Vr (y kl) ZU Z4 s (y plain)=0 then cH kl ZU.toNat plain else [])
theorem Np(n:Nat)(ZU Z4:Int)(s:List Bool):XE n ZU Z4 s=0\/XE n ZU Z4 s=5:=by
 unfold XE
 repeat' split
 all_goals simp
theorem Nq{n:Nat}{ZU Z4:Int}{s:List Bool}(e:XE n ZU Z4 s=0):n=32/\0<=ZU/\ZU<=1073741824/\0<=Z4/\Z4<=1073741824:=by
 unfold XE at e;split at e
 .cases e
 .omega
theorem wrZ{G:Hp}{b:Nat}(hx:G[b]? = M (K UP.toArray 76)){w:List al}(h11:(y w)=11)(h1:w.all Yq=true):wr G ⟨b,0,R⟩ w=M (G.setIfInBounds b (K w.toArray 76)):=by
 rw[Z2 hx 0 w,ZZ (by rw[h11];rfl),if_pos ⟨by rw[h11];exact Q _,h1⟩]
set_option maxHeartbeats 1000000 in
theorem CV(h:Hp)(k u:al)(kl plain:List Nat)(ZU Z4:Int)(s:List Bool)(hs:(y s)=8)(sk:Bs h k kl)(sp:Bs h u plain)(ck:Sn k):
  Zc Z T 93 #[.agg (Z0 k ZU Z4 s).toArray,u] h fun v' h'=>EK h.size h' v' kl ZU Z4 s plain/\Zf h.size h h':=by
 obtain⟨p,c,rfl,_⟩:=sk.open;obtain⟨q,d,rfl,_⟩:=sp.open;have WW:=Yu (A p (y kl) c) ZU Z4 s hs;have tk:=XH WW;refine Zc.PX [_,_] Tryz.func93 ?_;simp -implicitDefEqProofs only[go_sem,WW,tk];have Tm:Zf h.size h ((h.push (K (Z0 (A p (y kl) c) ZU Z4 s).toArray 76)).push (K UP.toArray 76)):=by (repeat' (first|exact Zf.refl _ _|assumption|refine Zf.add ?_ _|refine Zf.Zj ?_ (by first|omega|(simp;omega)) _|refine Zf.trans (by assumption) ?_))
 refine (OZ T _ p (y kl) c ZU Z4 s hs).use ?_;rintro _ g1 ⟨rfl,b1⟩;have x0:g1[h.size]? = M (K (Z0 (A p (y kl) c) ZU Z4 s).toArray 76):=b1.get (by simp only[O];omega) (by simp only[Y,O,aa,↓reduceIte]);have x1:g1[h.size+1]? = M (K UP.toArray 76):=b1.get (by simp only[O];omega) (by simp only[Y,O,aa,↓reduceIte];rfl);have UE:Zf h.size h g1:=Tm.trans (b1.mono (by simp;omega));have z1:=Za x1;clear b1 Tm;have Sg:Vr (y kl) ZU Z4 s (y plain)=if XE (y kl) ZU Z4 s≠0 then 5 else if 2000<(y plain) then 1 else if ZU=1073741824 then 8 else 0:=rfl
 unfold EK fR;obtain⟨E,hE⟩:=ZD (Vr (y kl) ZU Z4 s (y plain));rw[<-hE]at Sg ⊢;have wz:=wrZ x1 (w:=[A R 0 0,L D 0,L D 0,H false,H false,H false,H false,H false,H false,H false,H false]) rfl rfl;have uY:Zf h.size h (g1.setIfInBounds (h.size+1) (K #[A R 0 0,L D 0,L D 0,H false,H false,H false,H false,H false,H false,H false,H false] 76)):=UE.Zj (by omega) _;by_cases e0:XE (y kl) ZU Z4 s=0
 .obtain⟨hk,s0,s1,t0,t1⟩:=Nq e0;rw[if_neg (by simp[e0])]at Sg;by_cases hm:2000<(y plain)
  .rw[if_pos hm]at Sg;have Pv:2000<((y plain):Int):=by omega
   simp -implicitDefEqProofs only[go_sem,e0,Pv,wz,z1];exact⟨⟨_,_,by rw[Sg];rfl,⟨_,rfl,Yd.nil _ _ _⟩,Yd.nil _ _ _⟩,uY⟩
  .rw[if_neg hm]at Sg;have Pv:¬2000<((y plain):Int):=by omega
   have y1:V.hc g1 ⟨h.size,1,R⟩=M (L D ZU):=by rw[Zg x0];rfl
   have y0:V.hc g1 ⟨h.size,0,R⟩=M (A p (y kl) c):=by rw[Zg x0];rfl
   by_cases hf:ZU=1073741824
   .rw[if_pos hf]at Sg;have mE:(ZU=1073741824)=True:=eq_true hf;simp -implicitDefEqProofs only[go_sem,e0,Pv,y1,mE,wz,z1];exact⟨⟨_,_,by rw[Sg];rfl,⟨_,rfl,Yd.nil _ _ _⟩,Yd.nil _ _ _⟩,uY⟩
   .rw[if_neg hf]at Sg;rw[Sg];obtain⟨n,rfl⟩:∃n:Nat,ZU=n:=⟨ZU.toNat,by omega⟩
    rw[W];simp -implicitDefEqProofs only[go_sem,e0,Pv,y1,hf];refine (CU T _ n (by omega)).use ?_;rintro vh g2 ⟨oh,b2⟩;have z2:=b2.size;have x0':=b2.get (by omega) x0;have x1':=b2.get (by omega) x1;have y0':V.hc g2 ⟨h.size,0,R⟩=M (A p (y kl) c):=by rw[Zg x0'];rfl
    have Sw:=UE.trans (b2.mono UE.size);have Mh:h.size<g2.size:=by omega
    simp -implicitDefEqProofs only[go_sem];refine VS.w (g2.size) [] (.q 0 (.q 1 (.q 2 (.q 4 (.q 5 (.s 3 (.s 6 (.q 7 (.q 8 (.q 9 (.q 10 (.q 11 .nil)))))))))))) mixed (by kernel_rfl) ?_;simp -implicitDefEqProofs only[go_sem,y0',Mh];refine (No T _ _ _ oh.bs (by simp[Xa])).use ?_;rintro vn g3 ⟨on,b3⟩;have z3:=b3.size;have b3T:Zf g2.size g2 g3=True:=eq_true b3;simp -implicitDefEqProofs only[go_sem,b3T];refine (yc T _ _ _ _ _ kl (Jz (Xa n)) (Xa n) plain ((sk.Yb Sw).Yb b3) on.bs (oh.bs.Yb b3) ((sp.Yb Sw).Yb b3) ck on.cap).use ?_;rintro _ g4 ⟨⟨w4,rfl,o4⟩,b4⟩;have z4:=b4.size;have eS:Jy (y kl) (Jz (Xa n)).length (Xa n).length (y plain) 2000=0:=by
     unfold Jy Jz Xa;rw[if_neg];simp;omega
    rw[eS,if_pos rfl]at o4;rw[eS];have LX:Zf g2.size g2 g4:=b3.trans (b4.mono z3);have qF:Zf g2.size g2 g4=True:=eq_true LX;have ZpW:=LX.get (by omega) x0';have ZpX:=LX.get (by omega) x1';have fJ:=Sw.trans (LX.mono Sw.size);have rC:rd g4 ⟨h.size,0,R⟩ 11=M (Z0 (A p (y kl) c) n Z4 s):=Zs ZpW WW;simp -implicitDefEqProofs only[go_sem,qF,rC];refine (pM T _ _ kl n Z4 s hs (sk.Yb fJ) (by omega)).use ?_;rintro _ g5 ⟨⟨w5,rfl,o5⟩,b5⟩;have z5:=b5.size;obtain⟨pw,cw,rfl,_⟩:=o5.open;have ZhL:=b5.get (by omega) ZpX;have LY:=Yu (A pw (y kl) cw) n Z4 s hs;have tkD:=XH LY;have oD:=QI (p:=pw) (n:=(y kl)) (c:=cw) n Z4 s;have lpD:∀v,YJ [v,L D 0,L D 0,H false,H false,H false,H false,H false,H false,H false,H false] 0 (Z0 (A pw (y kl) cw) n Z4 s)=Z0 (A pw (y kl) cw) n Z4 s:=fun v=>ZZ LY;have nD:nth (Z0 (A pw (y kl) cw) n Z4 s) 1=M (L D n):=rfl;have e1:(n:Int)+1=((n+1:Nat):Int):=rfl;have sD:(Z0 (A pw (y kl) cw) n Z4 s).set 1 (L D ((n+1:Nat):Int))=Z0 (A pw (y kl) cw) ((n+1:Nat):Int) Z4 s:=rfl;have Fg:=Yu (A pw (y kl) cw) ((n+1:Nat):Int) Z4 s hs;have ZhM:=XH Fg;have oD':=QI (p:=pw) (n:=(y kl)) (c:=cw) ((n+1:Nat):Int) Z4 s;simp -implicitDefEqProofs only[go_sem,LY,tkD,oD,lpD,nD,e1,sD];have rJ:rd (g5.push (K (Z0 (A pw (y kl) cw) ((n+1:Nat):Int) Z4 s).toArray 76)) ⟨g5.size,0,R⟩ 11=M (Z0 (A pw (y kl) cw) ((n+1:Nat):Int) Z4 s):=Zs Zb Fg;have xJ:(g5.push (K (Z0 (A pw (y kl) cw) ((n+1:Nat):Int) Z4 s).toArray 76))[g5.size]? = M (K (Z0 (A pw (y kl) cw) ((n+1:Nat):Int) Z4 s).toArray 76):=Zb;have xZ:(g5.push (K (Z0 (A pw (y kl) cw) ((n+1:Nat):Int) Z4 s).toArray 76))[h.size+1]? = M (K UP.toArray 76):=by rw[Zl (by omega)];exact ZhL
    have hB5:=fJ.trans (b5.mono fJ.size);have hBJ:Zf h.size h (g5.push (K (Z0 (A pw (y kl) cw) ((n+1:Nat):Int) Z4 s).toArray 76)):=hB5.Yx hB5.size _;have ohJ:=(oh.Yb (LX.trans (b5.mono (by omega))) (Q _)).push (K (Z0 (A pw (y kl) cw) ((n+1:Nat):Int) Z4 s).toArray 76);have owJ:=o5.push (K (Z0 (A pw (y kl) cw) ((n+1:Nat):Int) Z4 s).toArray 76);have o4J:=(o4.Yb b5 (Q _)).push (K (Z0 (A pw (y kl) cw) ((n+1:Nat):Int) Z4 s).toArray 76);have zJ:(g5.push (K (Z0 (A pw (y kl) cw) ((n+1:Nat):Int) Z4 s).toArray 76)).size=g5.size+1:=by simp
    have ZL:=oh.Zy.lt;have H5:=oh.Zy.ZQ;have ZhN:=o5.Zy.ZQ;have ZCf:=o5.Zy.lt;have lS:(Fe kl (Jz (Xa n)) (Xa n) plain).length<=2016:=by
     have l1:=Vo kl 1 (Jz (Xa n)) plain;have l2:(Q4 kl (Jz (Xa n)) (Xa n) (Nb kl 1 (Jz (Xa n)) plain)).length<=16:=Kn _ _;unfold Fe;rw[av];omega
    have lh:(Xa n).length=4:=rfl;obtain⟨J,hJ⟩:=ZD (g5.push (K (Z0 (A pw (y kl) cw) ((n+1:Nat):Int) Z4 s).toArray 76));rw[<-hJ]at rJ xJ xZ hBJ ohJ owJ o4J zJ ⊢;clear hJ;have key:∀v' h',Yd g1.size 5 h' v' (Xa n++Fe kl (Jz (Xa n)) (Xa n) plain)->Zf g1.size J h'->Ue (ZJ vh) J h' ->
      rd h' ⟨g5.size,0,R⟩ 11=M (Z0 (A pw (y kl) cw) ((n+1:Nat):Int) Z4 s)/\wr h' ⟨h.size+1,0,R⟩ (Z0 (A pw (y kl) cw) ((n+1:Nat):Int) Z4 s)=M (h'.setIfInBounds (h.size+1) (K (Z0 (A pw (y kl) cw) ((n+1:Nat):Int) Z4 s).toArray 76)) /\
      (Zf (h.size+1) J h'=True)/\(Zf (h.size+1) J (h'.setIfInBounds (h.size+1) (K (Z0 (A pw (y kl) cw) ((n+1:Nat):Int) Z4 s).toArray 76))=True)/\h.size+1<h'.size /\
      Yd h.size 5 (h'.setIfInBounds (h.size+1) (K (Z0 (A pw (y kl) cw) ((n+1:Nat):Int) Z4 s).toArray 76)) (A pw (y kl) cw) kl /\
      Yd h.size 5 (h'.setIfInBounds (h.size+1) (K (Z0 (A pw (y kl) cw) ((n+1:Nat):Int) Z4 s).toArray 76)) v' (cH kl n plain) /\
      Zf h.size h (h'.setIfInBounds (h.size+1) (K (Z0 (A pw (y kl) cw) ((n+1:Nat):Int) Z4 s).toArray 76)):=by
     intro v' h' PW Jc PY;have xZ':=Jc.get (k:=h.size+1) (by omega) xZ;have xJ':h'[g5.size]? = M (K (Z0 (A pw (y kl) cw) ((n+1:Nat):Int) Z4 s).toArray 76):=by
      rw[PY.block g5.size (by omega) (fun e=>by have:=ZL _ e;omega)];exact xJ
     have ow':=owJ.SA PY (fun b hb e=>by have:=ZhN b hb;have:=ZL _ e;omega);have FZ:Zf (h.size+1) J h':=Jc.mono (by omega);exact⟨Zs xJ' Fg,wrZ xZ' Fg oD',eq_true FZ,eq_true (FZ.Zj (Q _) _),Za xZ',(ow'.Z3 (by omega) _).mono (by omega),(PW.Z3 (by omega) _).mono (by omega),(hBJ.trans (Jc.mono (by omega))).Zj (by omega) _⟩
    refine VS.w (h.size+1) [] (.q 1 (.q 2 (.or 0 (.s 3 (.s 4 (.q 5 (.q 6 .nil)))) (.s 3 (.s 0 (.s 4 (.q 5 (.q 6 .nil)))))))) mixed (by kernel_rfl) ?_;simp -implicitDefEqProofs only[go_sem,rJ];refine⟨?_,?_⟩
    .refine ZF (E:=5) (B:=g1.size) YN U WS VC VB ohJ (by omega) o4J.bs (by omega) ?_;intro v' h' PW Jc PY;obtain⟨k1,k2,k3,k4,k5,k6,k7,k8⟩:=key v' h' PW Jc PY;simp -implicitDefEqProofs only[go_sem,k1,k2,k3,k4,k5,Fg,ZhM];exact⟨⟨_,_,rfl,⟨_,rfl,k6⟩,k7⟩,k8⟩
    .refine ZF (E:=5) (B:=g1.size) YN U WS VC VB ohJ (by omega) o4J.bs (by omega) ?_;intro v' h' PW Jc PY;obtain⟨k1,k2,k3,k4,k5,k6,k7,k8⟩:=key v' h' PW Jc PY;simp -implicitDefEqProofs only[go_sem,k1,k2,k3,k4,k5,Fg,ZhM];exact⟨⟨_,_,rfl,⟨_,rfl,k6⟩,k7⟩,k8⟩
 .rw[if_pos e0]at Sg;have e5:=(Np (y kl) ZU Z4 s).resolve_left e0;simp -implicitDefEqProofs only[go_sem,e5,wz,z1];exact⟨⟨_,_,by rw[Sg];rfl,⟨_,rfl,Yd.nil _ _ _⟩,Yd.nil _ _ _⟩,uY⟩
def CW(Z4:Int)(s:List Bool)(n:Nat):Bool:=decide ((n:Int)<Z4-8)||(decide ((n:Int)<Z4)&&s.getD ((n:Int)-(Z4-8)).toNat false)
theorem Zde(h:Hp)(k:al)(ZU Z4:Int)(s:List Bool)(n:Nat)(hs:(y s)=8)(t0:0<=Z4)(t1:Z4<=1073741824)(hn:n<1073741824):
  Zc Z T 44 #[.agg (Z0 k ZU Z4 s).toArray,L D n] h fun v' h'=>v'=H (CW Z4 s n)/\Zf h.size h h':=by
 have WW:=Yu k ZU Z4 s hs;have tk:=XH WW;have n2:nth (Z0 k ZU Z4 s) 2=M (L D Z4):=rfl;refine Zc.Y8 [_,_] Tryz.func44 ?_;unfold CW;by_cases q1:(n:Int)<Z4-8
 .have d1:decide ((n:Int)<Z4-8)=true:=decide_eq_true q1;simp -implicitDefEqProofs only[go_sem,WW,tk,n2,q1,d1,Bool.true_or]
 .have d1:decide ((n:Int)<Z4-8)=false:=decide_eq_false q1;by_cases q2:(n:Int)<Z4
  .have d2:decide ((n:Int)<Z4)=true:=decide_eq_true q2;obtain⟨i,hi⟩:∃i:Nat,(n:Int)-(Z4-8)=i:=⟨((n:Int)-(Z4-8)).toNat,gX⟩
   have hi8:i<8:=gX;have Zp1:(i:Int)<8:=gX;have n3:nth (Z0 k ZU Z4 s) (3+i)=M (H (s.getD i false)):=by
    have:=RF s i gX;rw[YE]at this ⊢;rw[<-this];show (k :: L D ZU :: L D Z4 :: s.map Value.bool)[3+i]? = _;rw[Nat.add_comm];rfl
   simp -implicitDefEqProofs only[go_sem,WW,tk,n2,q1,q2,d1,d2,hi,Zp1,W,n3,ay]
  .have d2:decide ((n:Int)<Z4)=false:=decide_eq_false q2;simp -implicitDefEqProofs only[go_sem,WW,tk,n2,q1,q2,d1,d2,ay]
theorem cI(k:al)(ZU Z4:Int)(s t:List Bool)(hs:(y s)=8)(ht:(y t)=8):YJ (Z0 k ZU Z4 s) 3 (t.map Value.bool)=Z0 k ZU Z4 t:=by
 have:=UK [k,L D ZU,L D Z4] (s.map Value.bool) (t.map Value.bool);rw[ZZ (by simp[hs,ht])]at this;exact this
set_option maxHeartbeats 1000000 in
theorem yf(h:Hp)(k:al)(kl:List Nat)(ZU Z4:Int)(s:List Bool)(n:Nat)(hs:(y s)=8)(sk:Bs h k kl)(hk:(y kl)<=140737488355328)(t0:0<=Z4)(t1:Z4<=1073741824)(hn:n<1073741824)(hm:¬(n:Int)<Z4-8):
  Zc Z T 47 #[.agg (Z0 k ZU Z4 s).toArray,L D n] h fun v' h'=>Et h.size h' v' kl ZU (max Z4 (n+1)) (XU (TT Z4 s 8++[(n:Int)]) (max Z4 (n+1)))/\Zf h.size h h':=by
 obtain⟨p,c,rfl,_⟩:=sk.open;have WW:=Yu (A p (y kl) c) ZU Z4 s hs;have tk:=XH WW;refine Zc.PX [_,_] Tryz.func47 ?_;simp -implicitDefEqProofs only[go_sem,WW,tk];have Tm:Zf h.size h ((h.push (K (Z0 (A p (y kl) c) ZU Z4 s).toArray 76)).push (K UP.toArray 76)):=by (repeat' (first|exact Zf.refl _ _|assumption|refine Zf.add ?_ _|refine Zf.Zj ?_ (by first|omega|(simp;omega)) _|refine Zf.trans (by assumption) ?_))
 refine (pM T _ _ kl ZU Z4 s hs (sk.Yb Tm) hk).use ?_;rintro _ g1 ⟨⟨w,rfl,o1⟩,b1⟩;have x0:g1[h.size]? = M (K (Z0 (A p (y kl) c) ZU Z4 s).toArray 76):=b1.get (by simp only[O];omega) (by simp only[Y,O,aa,↓reduceIte]);have x1:g1[h.size+1]? = M (K UP.toArray 76):=b1.get (by simp only[O];omega) (by simp only[Y,O,aa,↓reduceIte]<;>rfl);have UE:Zf h.size h g1:=Tm.trans (b1.mono (by simp;omega));have z1:=Za x1;simp only[O]at o1;obtain⟨pw,cw,rfl,_⟩:=o1.open;clear b1 Tm;have y2:V.hc g1 ⟨h.size,2,R⟩=M (L D Z4):=by rw[Zg x0];rfl
 have LY:=Yu (A pw (y kl) cw) ZU Z4 s hs;have tkD:=XH LY;have oD:=QI (p:=pw) (n:=(y kl)) (c:=cw) ZU Z4 s;have lpD:∀v,YJ [v,L D 0,L D 0,H false,H false,H false,H false,H false,H false,H false,H false] 0 (Z0 (A pw (y kl) cw) ZU Z4 s)=Z0 (A pw (y kl) cw) ZU Z4 s:=fun v=>ZZ LY;have e1:(n:Int)+1=((n+1:Nat):Int):=rfl;obtain⟨TP,hTP⟩:∃TP:Int,TP=max Z4 (n+1):=⟨_,rfl⟩
 have Eb:(if ((n+1:Nat):Int)>Z4 then ((n+1:Nat):Int) else Z4)=TP:=by rw[hTP];split<;>omega
 have sD:(Z0 (A pw (y kl) cw) ZU Z4 s).set 2 (L D TP)=Z0 (A pw (y kl) cw) ZU TP s:=rfl;have Zp2:=Yu (A pw (y kl) cw) ZU TP s hs;have lE:YJ (Z0 (A pw (y kl) cw) ZU TP s) 3 [H false,H false,H false,H false,H false,H false,H false,H false]=Z0 (A pw (y kl) cw) ZU TP (XU (TT Z4 s 0) TP):=cI (A pw (y kl) cw) ZU TP s J6 hs rfl;have y0r:rd g1 ⟨h.size,3,R⟩ 8=M (s.map Value.bool):=by
  have V1:(s.map Value.bool).length=8:=by rw[List.length_map,hs]
  have:=Yh x0 (o:=3) (n:=8) (by rw[WW];omega);rw[this];have e:(Z0 (A p (y kl) c) ZU Z4 s).drop 3=s.map Value.bool:=rfl;rw[e,XH V1]
 rw[<-hTP];simp -implicitDefEqProofs only[go_sem,LY,tkD,oD,lpD,y2,e1,Eb,sD,Zp2,lE,y0r];obtain⟨bo,hbo⟩:∃b,b=g1.size:=⟨_,rfl⟩
 obtain⟨J,hJ⟩:=ZD (g1.push (K (Z0 (A pw (y kl) cw) ZU TP (XU (TT Z4 s 0) TP)).toArray 76));have J5:J[bo]? = M (K (Z0 (A pw (y kl) cw) ZU TP (XU (TT Z4 s 0) TP)).toArray 76):=by rw[hJ,hbo];exact Zb
 have J0:J[h.size]? = M (K (Z0 (A p (y kl) c) ZU Z4 s).toArray 76):=by rw[hJ,Zl (by omega)];exact x0
 have J1:J[h.size+1]? = M (K UP.toArray 76):=by rw[hJ,Zl (by omega)];exact x1
 have JB:Zf h.size h J:=by rw[hJ];exact UE.Yx UE.size _
 have Jo:Yd (h.size+1+1) 5 J (A pw (y kl) cw) kl:=by rw[hJ];exact o1.push _
 have Jlt:∀b,ZJ (A pw (y kl) cw)=M b->b<bo:=fun b hb=>by have:=o1.Zy.lt b hb;omega
 have Jsz:J.size=bo+1:=by rw[hJ,O,hbo]
 rw[<-hJ,<-hbo];clear hJ;refine VS.Z9 (fun F g=>F 1=L D n/\F 2=ao (M ⟨h.size,0,R⟩)/\F 4=ao (M ⟨h.size+1,0,R⟩)/\F 5=ao (M ⟨bo,0,R⟩)/\F 20=.agg (s.map Value.bool).toArray/\∃i:Nat,i<=8/\F 21=L D i/\g=J.setIfInBounds bo (K (Z0 (A pw (y kl) cw) ZU TP (XU (TT Z4 s i) TP)).toArray 76))
  (fun F _=>8-(vi (F 21)).toNat) rfl ⟨rfl,rfl,rfl,rfl,rfl,0,by omega,rfl,(UR J5).symm⟩ ?_
 rintro F g ⟨f1,f2,f4,f5,f20,i,hi,f21,rfl⟩;have hx:=Z1 (o:=K (Z0 (A pw (y kl) cw) ZU TP (XU (TT Z4 s i) TP)).toArray 76) J5;have So:(J.setIfInBounds bo (K (Z0 (A pw (y kl) cw) ZU TP (XU (TT Z4 s i) TP)).toArray 76))[h.size]? = M (K (Z0 (A p (y kl) c) ZU Z4 s).toArray 76):=by rw[X,if_neg (by omega)];exact J0
 have sl8:=VD (TT Z4 s i) TP;have Y5:=jh Z4 s i;obtain⟨SS,hSS⟩:=ZD (XU (TT Z4 s i) TP);by_cases ZL:i<8
 .have ZW:(i:Int)<8:=by omega
  rw[<-hSS]at hx So sl8 ⊢;obtain⟨G,hG⟩:=ZD (J.setIfInBounds bo (K (Z0 (A pw (y kl) cw) ZU TP SS).toArray 76));rw[<-hG]at hx So ⊢;have n1:=RF s i (by omega);have y2:V.hc G ⟨h.size,2,R⟩=M (L D Z4):=by rw[Zg So];rfl
  have y5:V.hc G ⟨bo,2,R⟩=M (L D TP):=by rw[Zg hx];rfl
  obtain⟨b,hb⟩:=ZD (s.getD i false);rw[<-hb]at n1 Y5
  cases b with
  | false=>
   rw[if_neg (by decide),List.append_nil]at Y5;simp -implicitDefEqProofs only[go_sem,f1,f2,f4,f5,f20,f21,ZW,W,n1,y2,y5];refine⟨⟨f1,f2,f4,f5,f20,i+1,ZL,rfl,?_⟩,?_⟩
   .rw[Y5,hG,hSS]
   .simp only[vi,Zk,↓reduceIte,f21];omega
  | true=>
   rw[if_pos rfl]at Y5;have IG:=M1 (TT Z4 s i) TP (Z4-8+(i:Int)) (by omega);rw[<-Y5,<-hSS]at IG;have ex:Z4-8+(i:Int)-TP+8=Z4+(i:Int)-TP:=by omega
   rw[ex]at IG;by_cases hk0:0<=Z4+(i:Int)-TP
   .rw[if_pos hk0]at IG;obtain⟨j,hj⟩:∃j:Nat,Z4+(i:Int)-TP=j:=⟨(Z4+(i:Int)-TP).toNat,by omega⟩
    rw[hj,W]at IG;have hj8:(j:Int)<8:=by omega
    have hj0:(0:Int)<=(j:Int):=by omega
    have ZCk:j<8:=by omega
    have hlen:=Yu (A pw (y kl) cw) ZU TP SS sl8;have w1:Jb G ⟨bo,3+j,R⟩ (H true)=M (G.setIfInBounds bo (K (Z0 (A pw (y kl) cw) ZU TP (SS.set j true)).toArray 76)):=by
     rw[Ye hx,if_pos ⟨by rw[hlen];omega,rfl⟩,Cg]
    simp -implicitDefEqProofs only[go_sem,f1,f2,f4,f5,f20,f21,ZW,W,n1,y2,y5,hj,hj0,hj8,w1];refine⟨⟨f1,f2,f4,f5,f20,i+1,ZL,rfl,?_⟩,?_⟩
    .rw[IG,hG,set_set]
    .simp only[vi,Zk,↓reduceIte,f21];omega
   .rw[if_neg hk0]at IG;simp -implicitDefEqProofs only[go_sem,f1,f2,f4,f5,f20,f21,ZW,W,n1,y2,y5,hk0];refine⟨⟨f1,f2,f4,f5,f20,i+1,ZL,rfl,?_⟩,?_⟩
    .rw[IG,hG]
    .simp only[vi,Zk,↓reduceIte,f21];omega
 .have YU:¬(i:Int)<8:=by omega
  obtain rfl:i=8:=by omega
  have c8:((8:Nat):Int)=8:=rfl;rw[c8]at f21 YU;have IG:=M1 (TT Z4 s 8) TP (n:Int) (by omega);rw[if_pos (by omega),<-hSS]at IG;have QH:(J.setIfInBounds bo (K (Z0 (A pw (y kl) cw) ZU TP (XU (TT Z4 s 8) TP)).toArray 76))[h.size+1]? = M (K UP.toArray 76):=by rw[X,if_neg (by omega)];exact J1
  have HB:=JB.Zj (b:=bo) (by omega) (K (Z0 (A pw (y kl) cw) ZU TP (XU (TT Z4 s 8) TP)).toArray 76);have HO:Yd (h.size+1+1) 5 (J.setIfInBounds bo (K (Z0 (A pw (y kl) cw) ZU TP (XU (TT Z4 s 8) TP)).toArray 76)) (A pw (y kl) cw) kl:=
   Jo.SA (x:=M bo) ⟨by simp,fun b hb Ys=>by rw[X,if_neg (fun e=>Ys (by rw[e]))]⟩ (fun b hb e=>by have:=Jlt b hb;simp at e;omega)
  rw[<-hSS]at hx QH HB HO sl8 ⊢;obtain⟨j,hj⟩:∃j:Nat,(n:Int)-(TP-8)=j:=⟨((n:Int)-(TP-8)).toNat,by omega⟩
  have hj2:(n:Int)-TP+8=j:=by omega
  rw[hj2,W]at IG;have hj8:(j:Int)<8:=by omega
  have hlen:=Yu (A pw (y kl) cw) ZU TP SS sl8;obtain⟨G,hG⟩:=ZD (J.setIfInBounds bo (K (Z0 (A pw (y kl) cw) ZU TP SS).toArray 76));rw[<-hG]at hx QH HB HO ⊢;have y5:V.hc G ⟨bo,2,R⟩=M (L D TP):=by rw[Zg hx];rfl
  have w1:Jb G ⟨bo,3+j,R⟩ (H true)=M (G.setIfInBounds bo (K (Z0 (A pw (y kl) cw) ZU TP (SS.set j true)).toArray 76)):=by
   rw[Ye hx,if_pos ⟨by rw[hlen];omega,rfl⟩,Cg]
  rw[IG];have ZhP:(SS.set j true).length=8:=by rw[List.length_set];exact sl8
  obtain⟨S2,hS2⟩:=ZD (SS.set j true);rw[<-hS2]at w1 ZhP ⊢;have fS:=Yu (A pw (y kl) cw) ZU TP S2 ZhP;have o2:=QI (p:=pw) (n:=(y kl)) (c:=cw) ZU TP S2;have tk2:=XH fS;have hxb:=Z1 (o:=K (Z0 (A pw (y kl) cw) ZU TP S2).toArray 76) hx;have rb:=Zs hxb fS;have Zp4:(G.setIfInBounds bo (K (Z0 (A pw (y kl) cw) ZU TP S2).toArray 76))[h.size+1]? = M (K UP.toArray 76):=by rw[X,if_neg (by omega)];exact QH
  have w2:=wrZ Zp4 fS o2;have k5:=Za QH;have HO2:Yd (h.size+1+1) 5 (G.setIfInBounds bo (K (Z0 (A pw (y kl) cw) ZU TP S2).toArray 76)) (A pw (y kl) cw) kl:=
   HO.SA (x:=M bo) ⟨by simp,fun b hb Ys=>by rw[X,if_neg (fun e=>Ys (by rw[e]))]⟩ (fun b hb e=>by have:=Jlt b hb;simp at e;omega)
  have HB2:=(HB.Zj (b:=bo) (by omega) (K (Z0 (A pw (y kl) cw) ZU TP S2).toArray 76)).Zj (b:=h.size+1) (by omega) (K (Z0 (A pw (y kl) cw) ZU TP S2).toArray 76);simp -implicitDefEqProofs only[go_sem,f1,f2,f4,f5,f20,f21,YU,y5,hj,hj8,W,w1,rb,w2,fS,tk2,k5];exact⟨⟨_,rfl,(HO2.Z3 (by omega) _).mono (by omega)⟩,HB2⟩
theorem qG{a b c d:Nat}(ha:a<256)(hb:b<256)(hc:c<256)(hd:d<256):Ym .or D (Ym .or D (Ym .or D (YS D (a:Int) 24) (YS D (b:Int) 16)) (YS D (c:Int) 8)) (d:Int)=((16777216*a+65536*b+256*c+d:Nat):Int):=by
 have e1:YS D (a:Int) 24=((a*16777216:Nat):Int):=Te ha 24 gX;have e2:YS D (b:Int) 16=((b*65536:Nat):Int):=Te hb 16 gX;have e3:YS D (c:Int) 8=((c*256:Nat):Int):=Te hc 8 gX;have f1:a*16777216 ||| b*65536=a*16777216+b*65536:=Qn (k:=24) gX gX
 have f2:(a*16777216+b*65536) ||| c*256=a*16777216+b*65536+c*256:=Qn (k:=16) gX gX
 rw[e1,e2,e3,PU _ _ gX gX,f1,PU _ _ gX gX,f2,PU _ _ gX gX,Qn (k:=8) gX gX]
 congr 1;omega
def VL(l:List Nat):Nat:=16777216*l.getD 0 0+65536*l.getD 1 0+256*l.getD 2 0+l.getD 3 0
theorem cJ{l:List Nat}(w:∀x∈l,x<256)(hl:4<=(y l)):Xa (VL l)=l.take 4:=by
 match l,hl with
 | a :: b :: c :: d :: l,_=>
  have h1:=w a Dq;have h2:=w b Dq;have h3:=w c Dq;have h4:=w d Dq;show [_,_,_,_]=[a,b,c,d]
  have e:VL (a :: b :: c :: d :: l)=16777216*a+65536*b+256*c+d:=rfl;rw[e]
  congr 1
  .omega
  .congr 1
   .omega
   .congr 1
    .omega
    .congr 1
     omega
theorem Zdg{a b c d:Nat}(ha:a<256)(hb:b<256)(hc:c<256)(hd:d<256):16777216*a+65536*b+256*c+d<4294967296:=gX
theorem yh(l:List Nat):VL l=16777216*l.getD 0 0+65536*l.getD 1 0+256*l.getD 2 0+l.getD 3 0:=by unfold VL;rfl
def TY(kl:List Nat)(ZU Z4:Int)(s:List Bool)(rc:List Nat):Int:=
 if XE (y kl) ZU Z4 s≠0 then 5 else if 2020<(y rc) then 1 else if (y rc)<20 then 13 else if 1073741824<=VL rc then 2 else
 if CW Z4 s (VL rc)=true then 7 else Nn kl (Jz (Xa (VL rc))) (Xa (VL rc)) (rc.drop 4)
def fU(kl rc:List Nat):List Nat:=qD kl (Jz (Xa (VL rc))) (rc.drop 4)
def Lk(Z4:Int)(s:List Bool)(n:Nat):List Bool:=XU (TT Z4 s 8++[(n:Int)]) (max Z4 (n+1))
def EL(B:Nat)(h':Hp)(v':al)(kl:List Nat)(ZU Z4:Int)(s:List Bool)(rc:List Nat):Prop:=∃cw w,v'=.tuple [cw,w,L D (TY kl ZU Z4 s rc)].toArray /\
 fR B h' cw (TY kl ZU Z4 s rc) kl ZU (max Z4 (VL rc+1)) (Lk Z4 s (VL rc))/\Yd B 5 h' w (if TY kl ZU Z4 s rc=0 then fU kl rc else [])
theorem qH{Z4:Int}{s:List Bool}{n:Nat}(h:¬CW Z4 s n=true):¬(n:Int)<Z4-8:=by
 intro ZL;apply h;unfold CW;rw[decide_eq_true ZL];rfl
set_option maxHeartbeats 2000000 in
theorem CX(h:Hp)(k u:al)(kl rc:List Nat)(ZU Z4:Int)(s:List Bool)(hs:(y s)=8)(sk:Bs h k kl)(sp:Bs h u rc)(ck:Sn k)(cu:Sn u):
  Zc Z T 24 #[.agg (Z0 k ZU Z4 s).toArray,u] h fun v' h'=>EL h.size h' v' kl ZU Z4 s rc/\Zf h.size h h':=by
 have uZ:=sp.byte;obtain⟨p,c,rfl,_⟩:=sk.open;obtain⟨q,d,rfl,hqc⟩:=sp.UM;have cu:(y rc)<=d:=cu;have WW:=Yu (A p (y kl) c) ZU Z4 s hs;have tk:=XH WW;refine Zc.PX [_,_] Tryz.func24 ?_;simp -implicitDefEqProofs only[go_sem,WW,tk];have Tm:Zf h.size h ((h.push (K (Z0 (A p (y kl) c) ZU Z4 s).toArray 76)).push (K UP.toArray 76)):=by (repeat' (first|exact Zf.refl _ _|assumption|refine Zf.add ?_ _|refine Zf.Zj ?_ (by first|omega|(simp;omega)) _|refine Zf.trans (by assumption) ?_))
 refine (OZ T _ p (y kl) c ZU Z4 s hs).use ?_;rintro _ g1 ⟨rfl,b1⟩;have x0:g1[h.size]? = M (K (Z0 (A p (y kl) c) ZU Z4 s).toArray 76):=b1.get (by simp only[O];omega) (by simp only[Y,O,aa,↓reduceIte]);have x1:g1[h.size+1]? = M (K UP.toArray 76):=b1.get (by simp only[O];omega) (by simp only[Y,O,aa,↓reduceIte]<;>rfl);have UE:Zf h.size h g1:=Tm.trans (b1.mono (by simp;omega));have z1:=Za x1;clear b1 Tm;have Sg:TY kl ZU Z4 s rc=if XE (y kl) ZU Z4 s≠0 then 5 else if 2020<(y rc) then 1 else if (y rc)<20 then 13 else if 1073741824<=VL rc then 2 else
 if CW Z4 s (VL rc)=true then 7 else Nn kl (Jz (Xa (VL rc))) (Xa (VL rc)) (rc.drop 4):=rfl
 unfold EL fR fU;have hbe:VL rc=16777216*rc.getD 0 0+65536*rc.getD 1 0+256*rc.getD 2 0+rc.getD 3 0:=yh rc;have h4:4<=(y rc)->Xa (VL rc)=rc.take 4:=fun hl=>cJ uZ hl;obtain⟨E,hE⟩:=ZD (TY kl ZU Z4 s rc);rw[<-hE]at Sg ⊢;clear hE;obtain⟨n,hn⟩:=ZD (VL rc);rw[<-hn]at Sg hbe h4 ⊢;clear hn;have wz:∀g:Hp,g[h.size+1]? = M (K UP.toArray 76)->wr g ⟨h.size+1,0,R⟩ [A R 0 0,L D 0,L D 0,H false,H false,H false,H false,H false,H false,H false,H false]=M (g.setIfInBounds (h.size+1) (K [A R 0 0,L D 0,L D 0,H false,H false,H false,H false,H false,H false,H false,H false].toArray 76)):=fun g hg=>wrZ hg rfl rfl;have uY:∀g:Hp,Zf h.size h g->Zf h.size h (g.setIfInBounds (h.size+1) (K #[A R 0 0,L D 0,L D 0,H false,H false,H false,H false,H false,H false,H false,H false] 76)):=fun g hg=>hg.Zj (by omega) _;have wz1:=wz g1 x1;by_cases e0:XE (y kl) ZU Z4 s=0
 .obtain⟨hk,s0,s1,t0,t1⟩:=Nq e0;rw[if_neg (by simp[e0])]at Sg;by_cases hm:2020<(y rc)
  .rw[if_pos hm]at Sg;have Pv:2020<((y rc):Int):=by omega
   simp -implicitDefEqProofs only[go_sem,e0,Pv,wz1,z1];exact⟨⟨_,_,by rw[Sg];rfl,⟨_,rfl,Yd.nil _ _ _⟩,Yd.nil _ _ _⟩,uY _ UE⟩
  .rw[if_neg hm]at Sg;have Pv:¬2020<((y rc):Int):=by omega
   by_cases yi:(y rc)<20
   .rw[if_pos yi]at Sg;have Zdh:((y rc):Int)<20:=by omega
    simp -implicitDefEqProofs only[go_sem,e0,Pv,Zdh,wz1,z1];exact⟨⟨_,_,by rw[Sg];rfl,⟨_,rfl,Yd.nil _ _ _⟩,Yd.nil _ _ _⟩,uY _ UE⟩
   .rw[if_neg yi]at Sg;have Zdh:¬((y rc):Int)<20:=by omega
    obtain⟨bb,oo,rfl,U9,hqc⟩:=hqc (by intro e;rw[e]at yi;simp at yi);have u0:V.hc g1 ⟨bb,oo+0,R⟩=M (L .u8 (rc.getD 0 0:Nat)):=by rw[UE.hc (by exact U9)];exact hqc 0 (by omega)
    have u1:V.hc g1 ⟨bb,oo+1,R⟩=M (L .u8 (rc.getD 1 0:Nat)):=by rw[UE.hc (by exact U9)];exact hqc 1 (by omega)
    have u2:V.hc g1 ⟨bb,oo+2,R⟩=M (L .u8 (rc.getD 2 0:Nat)):=by rw[UE.hc (by exact U9)];exact hqc 2 (by omega)
    have u3:V.hc g1 ⟨bb,oo+3,R⟩=M (L .u8 (rc.getD 3 0:Nat)):=by rw[UE.hc (by exact U9)];exact hqc 3 (by omega)
    rw[Nat.add_zero]at u0;have w0:=ZT uZ 0;have w1:=ZT uZ 1;have w2:=ZT uZ 2;have w3:=ZT uZ 3;have h4:=h4 (by omega);have s4:=RN sp (m:=4) (by omega) 4;rw[<-h4]at s4;generalize rc.getD 0 0=r0 at *;generalize rc.getD 1 0=r1 at *;generalize rc.getD 2 0=r2 at *;generalize rc.getD 3 0=r3 at *;have ZhR:Unit->_:=fun _=>Sg;clear Sg;have Zpd:n<4294967296:=by rw[hbe];exact Zdg w0 w1 w2 w3
    have d4:(4:Int)<=d:=by omega
    have sh:Unit->Ym .or D (Ym .or D (Ym .or D (YS D (r0:Int) 24) (YS D (r1:Int) 16)) (YS D (r2:Int) 8)) (r3:Int)=(n:Int):=fun _=>by rw[qG w0 w1 w2 w3,hbe]
    clear hbe;simp -implicitDefEqProofs only[go_sem,e0,Pv,Zdh,d4];refine VS.mono (N:=fun F g=>g1=g/\F 1=A (M ⟨bb,oo,R⟩) (y rc) d/\F 2=ao (M ⟨h.size,0,R⟩)/\F 4=ao (M ⟨h.size+1,0,R⟩)/\F 8=A (M ⟨bb,oo,R⟩) 4 4/\F 9=L D n) ?_ ?_ (fun _ _ _ h=>h) (fun _ _ h=>h)
    .refine VS.q mixed (by kernel_rfl) ?_;simp -implicitDefEqProofs only[go_sem,u0,u1,u2,u3];exact congrArg _ (sh ())
    clear sh w0 w1 w2 w3;have Sg:=ZhR ();clear ZhR;rintro F _ ⟨rfl,f1,f2,f4,f8,f9⟩;by_cases hb:1073741824<=n
    .rw[if_pos hb]at Sg;have Jc:(1073741824:Int)<=(n:Int):=by clear Sg;omega
     simp -implicitDefEqProofs only[go_sem,f1,f2,f4,f8,f9,Jc,wz1,z1];exact⟨⟨_,_,by rw[Sg];rfl,⟨_,rfl,Yd.nil _ _ _⟩,Yd.nil _ _ _⟩,uY _ UE⟩
    .rw[if_neg hb]at Sg;have Jc:¬(1073741824:Int)<=(n:Int):=by clear Sg;omega
     have rC:rd g1 ⟨h.size,0,R⟩ 11=M (Z0 (A p (y kl) c) ZU Z4 s):=Zs x0 WW;simp -implicitDefEqProofs only[go_sem,f1,f2,f4,f8,f9,Jc,rC];refine (Zde T _ _ ZU Z4 s n hs t0 t1 (by clear Sg;omega)).use ?_;rintro _ g2 ⟨rfl,b2⟩;have x02:=b2.get (Nat.lt_of_succ_lt z1) x0;have x12:=b2.get z1 x1;have z2:=b2.size;have Sw:=UE.trans (b2.mono UE.size);have wz2:=wz g2 x12;have zl2:=Za x12;by_cases qI:CW Z4 s n=true
     .rw[if_pos qI]at Sg;simp -implicitDefEqProofs only[go_sem,f1,f2,f4,f8,f9,qI,wz2,zl2];exact⟨⟨_,_,by rw[Sg];rfl,⟨_,rfl,Yd.nil _ _ _⟩,Yd.nil _ _ _⟩,uY _ Sw⟩
     .rw[if_neg qI]at Sg;have Zhu:=qH qI;have ZhS:CW Z4 s n=false:=by simpa using qI
      have y0:V.hc g2 ⟨h.size,0,R⟩=M (A p (y kl) c):=by rw[Zg x02];rfl
      have zl0:=Za x02;have l4:(Xa n).length=4:=rfl;have l12:(Jz (Xa n)).length<=1000:=by simp[Jz,Xa]
      have sbk:=RI sp rfl (k:=4) (by omega) cu (d-4);have Zp7:(4:Int)<=(y rc):=by clear Sg;omega
      simp -implicitDefEqProofs only[go_sem,f1,f2,f4,f8,f9,ZhS];refine VS.w (g2.size) [] (.q 0 (.q 1 (.q 2 (.q 4 (.q 5 (.q 6 (.s 3 (.s 7 (.q 8 (.q 9 (.q 10 (.q 11 (.q 12 .nil))))))))))))) mixed (by kernel_rfl) ?_;simp -implicitDefEqProofs only[go_sem,f1,f2,f4,f8,f9,y0,zl0,Zp7,Uv];refine (No T _ _ _ (s4.Yb Sw) (by rw[l4];decide)).use ?_;rintro vn g3 ⟨on,b3⟩;have z3:=b3.size;have b3T:Zf g2.size g2 g3=True:=eq_true b3;have hB3:=Sw.trans (b3.mono Sw.size);simp -implicitDefEqProofs only[go_sem,f1,f2,f4,f8,f9,b3T];refine (ye T _ _ _ _ _ kl (Jz (Xa n)) (Xa n) (rc.drop 4) (sk.Yb hB3) on.bs (s4.Yb hB3) (sbk.Yb hB3) ck on.cap (show (y rc)-4<=d-4 by omega)).use ?_;rintro _ g4 ⟨⟨w4,rfl,o4⟩,b4⟩;have z4:=b4.size;have LX:Zf g2.size g2 g4:=b3.trans (b4.mono z3);have qF:Zf g2.size g2 g4=True:=eq_true LX;rw[<-Sg]at o4 ⊢;have x14:=LX.get zl2 x12;have x04:=LX.get zl0 x02;have fJ:=Sw.trans (LX.mono Sw.size);have wz4:=wz g4 x14;have zl4:=Za x14;clear Sg;by_cases hE0:E=0
      .subst hE0;rw[if_pos rfl]at o4;have rC4:rd g4 ⟨h.size,0,R⟩ 11=M (Z0 (A p (y kl) c) ZU Z4 s):=Zs x04 WW;simp -implicitDefEqProofs only[go_sem,f1,f2,f4,f8,f9,qF,rC4];refine (yf T _ _ kl ZU Z4 s n hs (sk.Yb fJ) (by omega) t0 t1 (by omega) Zhu).use ?_;rintro _ g5 ⟨⟨w5,rfl,o5⟩,b5⟩;have x15:=b5.get zl4 x14;have z5:=b5.size;obtain⟨pw,cw,rfl,_⟩:=o5.open;have l8:(Lk Z4 s n).length=8:=VD _ _;have LY:=Yu (A pw (y kl) cw) ZU (max Z4 ((n:Int)+1)) (Lk Z4 s n) l8;have oD:=QI (p:=pw) (n:=(y kl)) (c:=cw) ZU (max Z4 ((n:Int)+1)) (Lk Z4 s n);have tkD:=XH LY;have wD:=wrZ x15 LY oD;have zl5:=Za x15;rw[show XU (TT Z4 s 8++[(n:Int)]) (max Z4 ((n:Int)+1))=Lk Z4 s n from rfl];have o4':=o4.Yb b5 (Q _);obtain⟨C5,hC5⟩:=ZD (Z0 (A pw (y kl) cw) ZU (max Z4 ((n:Int)+1)) (Lk Z4 s n));rw[<-hC5]at LY oD tkD wD ⊢;simp -implicitDefEqProofs only[go_sem,f1,f2,f4,f8,f9,qF,wD,LY,tkD,zl5];exact⟨⟨_,_,rfl,⟨_,by rw[hC5],(o5.Z3 (by omega) _).mono (by omega)⟩,(o4'.Z3 (by omega) _).mono (by omega)⟩,(fJ.trans (b5.mono fJ.size)).Zj (by omega) _⟩
      .rw[if_neg hE0]at o4;simp -implicitDefEqProofs only[go_sem,f1,f2,f4,f8,f9,qF,hE0,wz4,zl4];exact⟨⟨_,_,rfl,⟨_,rfl,Yd.nil _ _ _⟩,Yd.nil _ _ _⟩,uY _ fJ⟩
 .rw[if_pos e0]at Sg;have e5:=(Np (y kl) ZU Z4 s).resolve_left e0;simp -implicitDefEqProofs only[go_sem,e5,wz1,z1];exact⟨⟨_,_,by rw[Sg];rfl,⟨_,rfl,Yd.nil _ _ _⟩,Yd.nil _ _ _⟩,uY _ UE⟩
end Go.Proofs.YtdpjmhgbmhjniaaGreatDoor
