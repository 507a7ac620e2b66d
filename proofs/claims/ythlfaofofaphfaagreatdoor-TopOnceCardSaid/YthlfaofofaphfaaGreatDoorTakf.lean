/- Part Takf. -/
import Derived.Test.YthlfaofofaphfaaGreatDoorPolg
import Derived.Test.YthlfaofofaphfaaGreatDoorMix
import Derived.Test.YthlfaofofaphfaaGreatDoorBytes
import Derived.Test.YthlfaofofaphfaaGreatDoorVst
import Derived.Test.YthlfaofofaphfaaGreatDoorW15
import Derived.Test.YthlfaofofaphfaaGreatDoorLine
import Derived.Test.YthlfaofofaphfaaGreatDoorW13
open Go.Value renaming slice→A,bool→H,int→L,pointer→ag
open Go.IntKind renaming i64→D
open Go.Obj renaming cells→K
open Go.Proofs.Tryz renaming underlying28→U,prog→Z
open List renaming length→y,replicate→ae,length_append→al
open Nat renaming le_refl→Q,shiftRight_eq_div_pow→am
open Int renaming toNat_natCast→W
open Option renaming some→M,none→R
open Array renaming size_push→O,getElem?_setIfInBounds→X,getElem?_push→Y
open Bool renaming false_or→aw
open Go.IntWalk renaming iteOmega→aa
open Go renaming Value→ab
namespace Go.Proofs.YthlfaofofaphfaaGreatDoor
open Go Go.V
set_option linter.unusedSimpArgs false
set_option linter.unusedVariables false
set_option maxRecDepth 100000
variable(T:World)
def rQ(l:List Nat):List Nat:=l++ae ((16-(y l)%16)%16) 0
def cE(n:Nat):List Nat:=(List.range 8).map fun i=>n/256 ^ i%256
def Rt(Zi QR:List Nat):List Nat:=rQ Zi++rQ QR++cE (y Zi)++cE (y QR)
def QJ(key ZD Zi QR:List Nat):List Nat:=jr ((Jy key 0 ZD).take 32) (Rt Zi QR)
theorem cF(l:List Nat):(rQ l).length=(y l)+(16-(y l)%16)%16:=by simp[rQ]
theorem Gk(l:List Nat):(rQ l).length<=(y l)+15:=by rw[cF];omega
theorem Uc(n:Nat):(cE n).length=8:=by simp[cE]
theorem D5(h:Hp)(v:ab)(l:List Nat)(s:Bs h v l)(hl:(y l)<=4000):
  Zd Z T 63 #[v] h fun v' h'=>YB h.size 5 h' v' (rQ l)/\Zj h.size h h':=by
 obtain⟨p,c,rfl,WB⟩:=s.open;refine Zd.XS [_] Tryz.func63 ?_;simp -implicitDefEqProofs only[go_sem];refine ZK (E:=5) (B:=h.size) Xl U TA Sn Sm (YB.nil _ _ _) (Q _) s VL ?_;intro v1 h1 o1 b1 _;rw[List.nil_append]at o1;have e1:(((y l):Nat):Int).tmod 16=(((y l)%16:Nat):Int):=rfl;have e2:(16:Int)-(((y l)%16:Nat):Int)=((16-(y l)%16:Nat):Int):=pA;have e3:((16-(y l)%16:Nat):Int).tmod 16=(((16-(y l)%16)%16:Nat):Int):=rfl;simp -implicitDefEqProofs only[go_sem,e1,e2,e3];refine GY (E:=5) (B:=h.size) Xl Tryz.underlying3 TA Sn Sm o1 b1.size pA ?_;intro v2 h2 o2 b2 _;simp -implicitDefEqProofs only[go_sem];exact⟨o2,b1.trans b2⟩
theorem D6(h:Hp)(n:Nat)(hn:n<9223372036854775808):
  Zd Z T 64 #[L D n] h fun v' h'=>YB h.size 5 h' v' (cE n)/\Zj h.size h h':=by
 refine Zd.XS [_] Tryz.func64 ?_;simp -implicitDefEqProofs only[go_sem];refine VS.Yk (fun F g=>Zj h.size h g/\F 0=L D n/\∃j:Nat,j<=8/\F 4=L D (8*j:Nat)/\YB h.size 5 g (F 3) ((cE n).take j))
  (fun F _=>64-(vi (F 4)).toNat) rfl ⟨Zj.refl _ _,rfl,0,pA,rfl,YB.nil _ _ _⟩ ?_
 rintro F g ⟨hg,f0,j,hj,f4,ho⟩;have Ov:=hg.size;by_cases ZT:j<8
 .have Z7:((8*j:Nat):Int)<64:=pA;have e1:XF D (n:Int) ((8*j:Nat):Int)=((n/256 ^ j:Nat):Int):=by
   rw[Nb D n (8*j) (by show 8*j<=64;omega),am,Nat.pow_mul]
  have e2:((n/256 ^ j:Nat):Int)%256=((n/256 ^ j%256:Nat):Int):=rfl;have e3:¬((8*j:Nat):Int)<0:=pA;have e4:((8*j:Nat):Int)+8=((8*(j+1):Nat):Int):=pA;simp -implicitDefEqProofs only[go_sem,f0,f4,Z7,e1,e2,e3];have hX:n/256 ^ j%256<256:=Nat.mod_lt _ aaa;refine ZK (E:=5) (B:=h.size) Xl U TA Sn Sm (ho.push _) VL (Bs.one hX 1) (by simp[Uc];omega) ?_;intro v' h' Mr Qi _;simp -implicitDefEqProofs only[go_sem,f0,f4,e4];refine⟨⟨(hg.YX Ov _).trans Qi,f0,j+1,ZT,rfl,?_⟩,?_⟩
  .rw[Y8 _ j (by rw[Uc];exact ZT)];have e:(cE n)[j]'(by rw[Uc];exact ZT)=n/256 ^ j%256:=by simp[cE]
   rw[e];exact Mr
  .simp only[vi,Zr,↓reduceIte,f4];omega
 .have Xv:¬((8*j:Nat):Int)<64:=pA;obtain rfl:j=8:=pA;rw[List.take_of_length_le (by rw[Uc];exact Q _)]at ho;simp -implicitDefEqProofs only[go_sem,f0,f4,Xv];exact⟨ho,hg⟩
theorem Me{key ZD:List Nat}{k:Int}(hk:(y key)=32)(hn:(y ZD)=12)(h0:0<=k)(h1:k<=1073741824):JW key k ZD=0:=by
 unfold JW;rw[if_neg pA,if_neg pA]
theorem Dk(key:List Nat)(k:Nat)(ZD:List Nat):(Jy key k ZD).length=64:=by simp[Jy,Dd]
theorem cG{Zi QR:List Nat}(hk:(y Zi)<=256)(hs:(y QR)<=2000):(Rt Zi QR).length<=2400:=by
 unfold Rt;have h1:=Gk Zi;have h2:=Gk QR;simp only[al,Uc];omega
theorem cH{key data:List Nat}(hk:(y key)=32)(hd:(y data)<=4000):SQ key data=0:=by
 unfold SQ;rw[if_neg pA]
set_option maxHeartbeats 1000000 in
theorem I1(h:Hp)(v u kn sv:ab)(key ZD Zi QR:List Nat)(sk:Bs h v key)(sn:Bs h u ZD)(sw:Bs h kn Zi)(ss:Bs h sv QR)(hk:(y key)=32)(hn:(y ZD)=12)(hw:(y Zi)<=256)(hs:(y QR)<=2000)(ck:RY v)(cn:RY u):
  Zd Z T 47 #[v,u,kn,sv] h fun v' h'=>YB h.size 5 h' v' (QJ key ZD Zi QR)/\Zj h.size h h':=by
 obtain⟨pw,cw,rfl,_⟩:=sw.open;obtain⟨ps,cs,rfl,_⟩:=ss.open;refine Zd.XS [_,_,_,_] Tryz.func47 ?_;simp -implicitDefEqProofs only[go_sem];refine (yR T _ _ _ key ZD 0 sk sn ck cn).use ?_;rintro _ h1 ⟨⟨w1,rfl,o1⟩,b1⟩;have e0:=Me (k:=0) hk hn aaa aaa;rw[e0,if_pos rfl]at o1;rw[e0];have o1:YB h.size 5 h1 w1 (Jy key 0 ZD):=o1;have z1:=b1.size;simp -implicitDefEqProofs only[go_sem];refine (D5 T _ _ Zi (sw.Yz b1) pA).use ?_;rintro v2 h2 ⟨o2,b2⟩;have z2:=b2.size;have B2:=b1.trans (b2.mono z1);simp -implicitDefEqProofs only[go_sem];refine (D5 T _ _ QR (ss.Yz B2) pA).use ?_;rintro v3 h3 ⟨o3,b3⟩;have z3:=b3.size;have B3:=B2.trans (b3.mono pA);have l1:=Gk Zi;have l2:=Gk QR;simp -implicitDefEqProofs only[go_sem];refine ZK (E:=5) (B:=h1.size) Xl U TA Sn Sm (o2.Yz b3 (Q _)) pA o3.bs pA ?_;intro v4 h4 o4 b4 _;have z4:=b4.size;simp -implicitDefEqProofs only[go_sem];refine (D6 T _ (y Zi) pA).use ?_;rintro v5 h5 ⟨o5,b5⟩;have z5:=b5.size;simp -implicitDefEqProofs only[go_sem];refine ZK (E:=5) (B:=h1.size) Xl U TA Sn Sm (o4.Yz b5 (Q _)) pA o5.bs (by simp only[al,Uc];omega) ?_;intro v6 h6 o6 b6 _;have z6:=b6.size;simp -implicitDefEqProofs only[go_sem];refine (D6 T _ (y QR) pA).use ?_;rintro v7 h7 ⟨o7,b7⟩;have z7:=b7.size;simp -implicitDefEqProofs only[go_sem];refine ZK (E:=5) (B:=h1.size) Xl U TA Sn Sm (o6.Yz b7 (Q _)) pA o7.bs (by simp only[al,Uc];omega) ?_;intro v8 h8 o8 b8 _;have z8:=b8.size;have o8:YB h1.size 5 h8 v8 (Rt Zi QR):=o8;have B8:Zj h1.size h1 h8:=(((((b2.trans (b3.mono z2)).trans b4).trans (b5.mono pA)).trans b6).trans (b7.mono pA)).trans b8;have o1':=o1.Yz B8 (Q _);have hlb:=Dk key 0 ZD;obtain⟨pb,cb,rfl,C0⟩:=o1'.open;rw[hlb]at C0 o1' ⊢;have s32:=Nl o1'.bs (m:=32) pA cb;have c32:(32:Int)<=cb:=pA;have l32:((Jy key 0 ZD).take 32).length=32:=aad;have hd:=cG hw hs;simp -implicitDefEqProofs only[go_sem,c32];refine (cD T _ _ _ ((Jy key 0 ZD).take 32) (Rt Zi QR) s32 o8.bs (show 32<=cb by omega) o8.cap).use ?_;rintro _ h9 ⟨⟨w9,rfl,o9⟩,b9⟩;have e9:=cH (data:=Rt Zi QR) l32 pA;rw[e9,if_pos rfl]at o9;rw[e9];simp -implicitDefEqProofs only[go_sem];exact⟨o9.mono pA,(b1.trans (B8.mono z1)).trans (b9.mono pA)⟩
def Qd(k n w m SV:Nat):Int:=if k≠32\/n≠12\/256<w\/SV<m then 1 else 0
theorem LQ{k n w m SV:Nat}(e:Qd k n w m SV=0):k=32/\n=12/\w<=256/\m<=SV:=by
 unfold Qd at e;split at e
 .cases e
 .omega
theorem I2{k n w m SV:Nat}(e:¬Qd k n w m SV=0):Qd k n w m SV=1:=by
 unfold Qd at e ⊢;split
 .rfl
 .rename_i h;rw[if_neg h]at e;exact (e rfl).elim
theorem LS(h:Hp)(p q r s:Option Addr)(k n w m c1 c2 c3 c4 SV:Nat):
  Zd Z T 45 #[A p k c1,A q n c2,A r w c3,A s m c4,L D SV] h fun v' h'=>v'=L D (Qd k n w m SV)/\h'=h:=by
 refine Zd.XS [_,_,_,_,_] Tryz.func45 ?_;unfold Qd;by_cases q0:k=32
 ·
  by_cases q1:n=12
  ·
   by_cases q2:w<=256
   ·
    by_cases q3:m<=SV
    ·
     have c0:(k:Int)=32\/¬(k:Int)=32:=pA;have c1:(n:Int)=12\/¬(n:Int)=12:=pA;have c2:256<(w:Int)\/¬256<(w:Int):=pA;have c3:(SV:Int)<(m:Int)\/¬(SV:Int)<(m:Int):=pA;rcases c0 with c0|c0<;>rcases c1 with c1|c1<;>rcases c2 with c2|c2<;>rcases c3 with c3|c3<;>first
      | (exfalso;omega)
      | (rw[if_neg pA];simp -implicitDefEqProofs only[go_sem,c0,c1,c2,c3])
      | (rw[if_pos pA];simp -implicitDefEqProofs only[go_sem,c0,c1,c2,c3])
    ·
     have c0:(k:Int)=32\/¬(k:Int)=32:=pA;have c1:(n:Int)=12\/¬(n:Int)=12:=pA;have c2:256<(w:Int)\/¬256<(w:Int):=pA;have c3:(SV:Int)<(m:Int)\/¬(SV:Int)<(m:Int):=pA;rcases c0 with c0|c0<;>rcases c1 with c1|c1<;>rcases c2 with c2|c2<;>rcases c3 with c3|c3<;>first
      | (exfalso;omega)
      | (rw[if_neg pA];simp -implicitDefEqProofs only[go_sem,c0,c1,c2,c3])
      | (rw[if_pos pA];simp -implicitDefEqProofs only[go_sem,c0,c1,c2,c3])
   ·
    have c0:(k:Int)=32\/¬(k:Int)=32:=pA;have c1:(n:Int)=12\/¬(n:Int)=12:=pA;have c2:256<(w:Int)\/¬256<(w:Int):=pA;have c3:(SV:Int)<(m:Int)\/¬(SV:Int)<(m:Int):=pA;rcases c0 with c0|c0<;>rcases c1 with c1|c1<;>rcases c2 with c2|c2<;>rcases c3 with c3|c3<;>first
     | (exfalso;omega)
     | (rw[if_neg pA];simp -implicitDefEqProofs only[go_sem,c0,c1,c2,c3])
     | (rw[if_pos pA];simp -implicitDefEqProofs only[go_sem,c0,c1,c2,c3])
  ·
   have c0:(k:Int)=32\/¬(k:Int)=32:=pA;have c1:(n:Int)=12\/¬(n:Int)=12:=pA;have c2:256<(w:Int)\/¬256<(w:Int):=pA;have c3:(SV:Int)<(m:Int)\/¬(SV:Int)<(m:Int):=pA;rcases c0 with c0|c0<;>rcases c1 with c1|c1<;>rcases c2 with c2|c2<;>rcases c3 with c3|c3<;>first
    | (exfalso;omega)
    | (rw[if_neg pA];simp -implicitDefEqProofs only[go_sem,c0,c1,c2,c3])
    | (rw[if_pos pA];simp -implicitDefEqProofs only[go_sem,c0,c1,c2,c3])
 ·
  have c0:(k:Int)=32\/¬(k:Int)=32:=pA;have c1:(n:Int)=12\/¬(n:Int)=12:=pA;have c2:256<(w:Int)\/¬256<(w:Int):=pA;have c3:(SV:Int)<(m:Int)\/¬(SV:Int)<(m:Int):=pA;rcases c0 with c0|c0<;>rcases c1 with c1|c1<;>rcases c2 with c2|c2<;>rcases c3 with c3|c3<;>first
   | (exfalso;omega)
   | (rw[if_neg pA];simp -implicitDefEqProofs only[go_sem,c0,c1,c2,c3])
   | (rw[if_pos pA];simp -implicitDefEqProofs only[go_sem,c0,c1,c2,c3])
def Ru(key ZD Zi plain:List Nat):List Nat:=Wk key 1 ZD plain++QJ key ZD Zi (Wk key 1 ZD plain)
def nk(B:Nat)(h':Hp)(v':ab)(key ZD Zi plain:List Nat):Prop:=∃w,v'=.tuple [w,L D (Qd (y key) (y ZD) (y Zi) (y plain) 2000)].toArray/\YB B 5 h' w (if Qd (y key) (y ZD) (y Zi) (y plain) 2000=0 then Ru key ZD Zi plain else [])
theorem I3{key ZD:List Nat}{k:Int}{n:Nat}(hk:(y key)=32)(hn:(y ZD)=12)(h0:0<=k)(h1:k<=1073741824)(hm:n<=2000):SM key k ZD n=0:=by
 unfold SM;rw[Me hk hn h0 h1,if_neg IQ,if_neg pA]
theorem Gl(key data:List Nat):(jr key data).length<=16:=by rw[Su];exact Q _
theorem Zdx(h:Hp)(v u kn sv:ab)(key ZD Zi plain:List Nat)(sk:Bs h v key)(sn:Bs h u ZD)(sw:Bs h kn Zi)(ss:Bs h sv plain)(ck:RY v)(cn:RY u):
  Zd Z T 32 #[v,u,kn,sv] h fun v' h'=>nk h.size h' v' key ZD Zi plain/\Zj h.size h h':=by
 obtain⟨p,c,rfl,_⟩:=sk.open;obtain⟨q,d,rfl,_⟩:=sn.open;obtain⟨pw,cw,rfl,_⟩:=sw.open;obtain⟨ps,cs,rfl,_⟩:=ss.open;refine Zd.XS [_,_,_,_] Tryz.func32 ?_;unfold nk;simp -implicitDefEqProofs only[go_sem];refine (LS T _ _ _ _ _ _ _ _ _ _ _ _ _ 2000).pure ?_;by_cases e:Qd (y key) (y ZD) (y Zi) (y plain) 2000=0
 .obtain⟨hk,hn,hw,hs⟩:=LQ e;rw[e,if_pos rfl];simp -implicitDefEqProofs only[go_sem,e];refine (yZ T _ _ _ _ key ZD plain 1 sk sn ss ck cn).use ?_;rintro _ h1 ⟨⟨w1,rfl,o1⟩,b1⟩;have e1:=I3 (k:=1) hk hn aaa aaa hs;rw[e1,if_pos rfl]at o1;rw[e1];have o1:YB h.size 5 h1 w1 (Wk key 1 ZD plain):=o1;have z1:=b1.size;have l1:=JC key 1 ZD plain;simp -implicitDefEqProofs only[go_sem];refine (I1 T _ _ _ _ _ key ZD Zi (Wk key 1 ZD plain) (sk.Yz b1) (sn.Yz b1) (sw.Yz b1) o1.bs hk hn hw pA ck cn).use ?_;rintro v2 h2 ⟨o2,b2⟩;have l2:(QJ key ZD Zi (Wk key 1 ZD plain)).length<=16:=Gl _ _;have z2:=b2.size;simp -implicitDefEqProofs only[go_sem];refine ZK (E:=5) (B:=h.size) Xl U TA Sn Sm (o1.Yz b2 (Q _)) pA o2.bs pA ?_;intro v3 h3 o3 b3 _;simp -implicitDefEqProofs only[go_sem];exact⟨⟨_,rfl,o3⟩,(b1.trans (b2.mono z1)).trans b3⟩
 .have e1:=I2 e;rw[if_neg e];simp -implicitDefEqProofs only[go_sem,e1];exact⟨_,rfl,YB.nil _ _ _⟩
theorem D7(a:Option Addr)(c:Nat):iY a 1 c 0=a:=by
 unfold iY;split
 .rfl
 .cases a with
  | none=>rfl
  | some a=>simp[Addr.add]
def No(key ZD Zi data:List Nat):Int:=if Qd (y key) (y ZD) (y Zi) (y data) 2016≠0 then 1 else if (y data)<16 then 13 else if QJ key ZD Zi (data.take ((y data)-16))≠data.drop ((y data)-16) then 6 else 0
def np(key ZD data:List Nat):List Nat:=Wk key 1 ZD (data.take ((y data)-16))
def nr(B:Nat)(h':Hp)(v':ab)(key ZD Zi data:List Nat):Prop:=∃w,v'=.tuple [w,L D (No key ZD Zi data)].toArray/\YB B 5 h' w (if No key ZD Zi data=0 then np key ZD data else [])
theorem Zdy(h:Hp)(v u kn sv:ab)(key ZD Zi data:List Nat)(sk:Bs h v key)(sn:Bs h u ZD)(sw:Bs h kn Zi)(ss:Bs h sv data)(ck:RY v)(cn:RY u)(cs:RY sv):
  Zd Z T 104 #[v,u,kn,sv] h fun v' h'=>nr h.size h' v' key ZD Zi data/\Zj h.size h h':=by
 obtain⟨p,c,rfl,_⟩:=sk.open;obtain⟨q,d,rfl,_⟩:=sn.open;obtain⟨pw,cw,rfl,_⟩:=sw.open;obtain⟨ps,cd,rfl,_⟩:=ss.open;have cs:(y data)<=cd:=cs;refine Zd.XS [_,_,_,_] Tryz.func104 ?_;unfold nr;simp -implicitDefEqProofs only[go_sem];refine (LS T _ _ _ _ _ _ _ _ _ _ _ _ _ 2016).pure ?_;have zE:No key ZD Zi data=if Qd (y key) (y ZD) (y Zi) (y data) 2016≠0 then 1 else if (y data)<16 then 13 else if QJ key ZD Zi (data.take ((y data)-16))≠data.drop ((y data)-16) then 6 else 0:=rfl
 by_cases e:Qd (y key) (y ZD) (y Zi) (y data) 2016=0
 .obtain⟨hk,hn,hw,hs⟩:=LQ e;rw[if_neg (by simp[e])]at zE;by_cases h16:(y data)<16
  .rw[if_pos h16]at zE;rw[zE];have n0:((y data):Int)-16<0:=pA;simp -implicitDefEqProofs only[go_sem,e,n0];exact⟨_,rfl,YB.nil _ _ _⟩
  .rw[if_neg h16]at zE;have n0:¬(((y data)-16:Nat):Int)<0:=pA;have n1:((y data):Int)-16=(((y data)-16:Nat):Int):=pA;have sfr:=Nl ss (m:=(y data)-16) pA cd;have sbk:=Ng ss rfl (k:=(y data)-16) pA cs (cd-((y data)-16));have lfr:(data.take ((y data)-16)).length=(y data)-16:=aad;have Zmh:(((y data)-16:Nat):Int)<=cd:=pA;have Zug:(((y data)-16:Nat):Int)<=(y data):=pA;simp -implicitDefEqProofs only[go_sem,e,n1,n0];refine VS.w (h.size) [] (.q 0 (.q 1 (.q 2 (.q 3 (.q 4 (.q 5 (.q 7 (.q 8 (.q 9 (.s 6 (.s 10 (.q 11 .nil)))))))))))) mixed vM ?_;simp -implicitDefEqProofs only[go_sem,Zmh,Zug,W,WM,D7];refine (I1 T _ _ _ _ _ key ZD Zi (data.take ((y data)-16)) sk sn sw sfr hk hn hw pA ck cn).use ?_;rintro v1 h1 ⟨o1,b1⟩;have l1:(QJ key ZD Zi (data.take ((y data)-16))).length<=16:=Gl _ _;simp -implicitDefEqProofs only[go_sem,b1];refine (Bx T _ _ _ _ _ o1.bs (sbk.Yz b1) pA).pure ?_;obtain⟨S,hS⟩:=ZL (QJ key ZD Zi (data.take ((y data)-16)));rw[<-hS]at zE ⊢;by_cases ht:S=data.drop ((y data)-16)
   .rw[if_neg (by simp[ht])]at zE;rw[zE,if_pos rfl];have vw:decide (S=data.drop ((y data)-16))=true:=decide_eq_true ht;simp -implicitDefEqProofs only[go_sem,b1,vw,Zmh,WM,D7];refine (yZ T _ _ _ _ key ZD (data.take ((y data)-16)) 1 (sk.Yz b1) (sn.Yz b1) (sfr.Yz b1) ck cn).use ?_;rintro _ h2 ⟨⟨w2,rfl,o2⟩,b2⟩;have e2:=I3 (k:=1) hk hn aaa aaa (show (data.take ((y data)-16)).length<=2000 by omega);rw[e2,if_pos rfl]at o2;rw[e2];have o2:YB h1.size 5 h2 w2 (np key ZD data):=o2;simp -implicitDefEqProofs only[go_sem];exact⟨⟨_,rfl,o2.mono b1.size⟩,b1.trans (b2.mono b1.size)⟩
   .rw[if_pos ht]at zE;rw[zE];have vw:decide (S=data.drop ((y data)-16))=false:=decide_eq_false ht;simp -implicitDefEqProofs only[go_sem,b1,vw];exact⟨_,rfl,YB.nil _ _ _⟩
 .have e1:=I2 e;rw[if_pos e]at zE;rw[zE];simp -implicitDefEqProofs only[go_sem,e1];exact⟨_,rfl,YB.nil _ _ _⟩
def YJ(n:Nat):List Nat:=[n/16777216%256,n/65536%256,n/256%256,n%256]
theorem jD(n:Nat):∀x∈YJ n,x<256:=by
 intro x hx;simp only[YJ,List.mem_cons,List.not_mem_nil,or_false]at hx;omega
theorem Fz(n k:Nat)(hk:k<=64):XF D (n:Int) (k:Int)=((n/2 ^ k:Nat):Int):=by
 rw[Nb D n k hk,am]
theorem cI(h:Hp)(n:Nat)(hn:n<=1073741824):
  Zd Z T 31 #[L D n] h fun v' h'=>YB h.size 5 h' v' (YJ n)/\Zj h.size h h':=by
 refine Zd.XS [_] Tryz.func31 ?_;have e1:XF D (n:Int) 24%256=((n/16777216%256:Nat):Int):=by rw[show (24:Int)=((24:Nat):Int) from rfl,Fz n 24 pA];omega
 have e2:XF D (n:Int) 16%256=((n/65536%256:Nat):Int):=by rw[show (16:Int)=((16:Nat):Int) from rfl,Fz n 16 pA];omega
 have e3:XF D (n:Int) 8%256=((n/256%256:Nat):Int):=by rw[show (8:Int)=((8:Nat):Int) from rfl,Fz n 8 pA];omega
 have e4:(n:Int)%256=((n%256:Nat):Int):=pA;simp -implicitDefEqProofs only[go_sem,e1,e2,e3,e4];exact YB.made (l:=YJ n) (jD n) (Q _)
def XT(l:List Nat):List Nat:=ae 8 0++l
theorem Zhw:(Qr 12 [Value.int .u8 0])=(ae 12 0).map bv:=rfl
theorem LU(h:Hp)(v:ab)(l:List Nat)(s:Bs h v l)(hl:(y l)<=1000):
  Zd Z T 33 #[v] h fun v' h'=>YB h.size 5 h' v' (XT l)/\Zj h.size h h':=by
 refine Zd.XS [_] Tryz.func33 ?_;simp -implicitDefEqProofs only[go_sem,Zhw];have o1:YB h.size 5 (h.push (K ((ae 12 0).map bv).toArray 5)) (A (M ⟨h.size,0,R⟩) 8 12) (ae 8 0):=by
  refine⟨.inr ⟨h.size,12,(ae 4 0).map bv,Q _,rfl,?_,IQ,IQ,IQ⟩,fun x hx=>by rw[List.eq_of_mem_replicate hx];decide⟩;rw[Zc,<-List.map_append];rfl
 refine ZK (E:=5) (B:=h.size) Xl U TA Sn Sm o1 IQ (s.Yz (Zj.push (Q _) _)) VL ?_;intro v' h' Mr Qi _;simp -implicitDefEqProofs only[go_sem];exact⟨Mr,(Zj.push (Q _) _).trans Qi⟩
def Sw(n:Nat)(Z2 Z5:Int)(s:List Bool)(m:Nat):Int:=if Ji n Z2 Z5 s≠0 then 5 else if 2000<m then 1 else if Z2=1073741824 then 8 else 0
def JS:List Bool:=[false,false,false,false,false,false,false,false]
def TF(kl:List Nat)(n:Nat)(plain:List Nat):List Nat:=YJ n++Ru kl (XT (YJ n)) (YJ n) plain
def nt(B:Nat)(h':Hp)(cw:ab)(e:Int)(kl:List Nat)(Z2 Z5:Int)(s:List Bool):Prop:=Bz B h' cw (if e=0 then kl else []) (if e=0 then Z2 else 0) (if e=0 then Z5 else 0) (if e=0 then s else JS)
def BU(B:Nat)(h':Hp)(v':ab)(kl:List Nat)(Z2 Z5:Int)(s:List Bool)(plain:List Nat):Prop:=∃cw w,v'=.tuple [cw,w,L D (Sw (y kl) Z2 Z5 s (y plain))].toArray /\
 nt B h' cw (Sw (y kl) Z2 Z5 s (y plain)) kl (Z2+1) Z5 s/\YB B 5 h' w (if Sw (y kl) Z2 Z5 s (y plain)=0 then TF kl Z2.toNat plain else [])
theorem LV(n:Nat)(Z2 Z5:Int)(s:List Bool):Ji n Z2 Z5 s=0\/Ji n Z2 Z5 s=5:=by
 unfold Ji
 repeat' split
 all_goals simp
theorem LW{n:Nat}{Z2 Z5:Int}{s:List Bool}(e:Ji n Z2 Z5 s=0):n=32/\0<=Z2/\Z2<=1073741824/\0<=Z5/\Z5<=1073741824:=by
 unfold Ji at e;split at e
 .cases e
 .omega
theorem wrZ{G:Hp}{b:Nat}(hx:G[b]? = M (K Vl.toArray 66)){w:List ab}(h11:(y w)=11)(h1:w.all YE=true):wr G ⟨b,0,R⟩ w=M (G.setIfInBounds b (K w.toArray 66)):=by
 rw[Ye hx 0 w,ZW (by rw[h11];rfl),if_pos ⟨by rw[h11];exact Q _,h1⟩]
set_option maxHeartbeats 1000000 in
theorem cJ(h:Hp)(k u:ab)(kl plain:List Nat)(Z2 Z5:Int)(s:List Bool)(hs:(y s)=8)(sk:Bs h k kl)(sp:Bs h u plain)(ck:RY k):
  Zd Z T 18 #[.agg (Yc k Z2 Z5 s).toArray,u] h fun v' h'=>BU h.size h' v' kl Z2 Z5 s plain/\Zj h.size h h':=by
 obtain⟨p,c,rfl,_⟩:=sk.open;obtain⟨q,d,rfl,_⟩:=sp.open;have T5:=YP (A p (y kl) c) Z2 Z5 s hs;have tk:=Xt T5;refine Zd.Lt [_,_] Tryz.func18 ?_;simp -implicitDefEqProofs only[go_sem,T5,tk];have Rq:Zj h.size h ((h.push (K (Yc (A p (y kl) c) Z2 Z5 s).toArray 66)).push (K Vl.toArray 66)):=by (repeat' (first|exact Zj.refl _ _|assumption|refine Zj.add ?_ _|refine Zj.Zt ?_ (by first|omega|(simp;omega)) _|refine Zj.trans (by assumption) ?_))
 refine (Ly T _ p (y kl) c Z2 Z5 s hs).use ?_;rintro _ g1 ⟨rfl,b1⟩;have x0:g1[h.size]? = M (K (Yc (A p (y kl) c) Z2 Z5 s).toArray 66):=b1.get (by simp only[O];omega) (by simp only[Y,O,aa,↓reduceIte]);have x1:g1[h.size+1]? = M (K Vl.toArray 66):=b1.get (by simp only[O];omega) (by simp only[Y,O,aa,↓reduceIte];rfl);have Ve:Zj h.size h g1:=Rq.trans (b1.mono (by simp;omega));have z1:=Za x1;clear b1 Rq;have PO:Sw (y kl) Z2 Z5 s (y plain)=if Ji (y kl) Z2 Z5 s≠0 then 5 else if 2000<(y plain) then 1 else if Z2=1073741824 then 8 else 0:=rfl
 unfold BU nt;obtain⟨E,hE⟩:=ZL (Sw (y kl) Z2 Z5 s (y plain));rw[<-hE]at PO ⊢;have wz:=wrZ x1 (w:=[A R 0 0,L D 0,L D 0,H false,H false,H false,H false,H false,H false,H false,H false]) rfl rfl;have hBz:Zj h.size h (g1.setIfInBounds (h.size+1) (K #[A R 0 0,L D 0,L D 0,H false,H false,H false,H false,H false,H false,H false,H false] 66)):=Ve.Zt (by omega) _;by_cases e0:Ji (y kl) Z2 Z5 s=0
 .obtain⟨hk,s0,s1,t0,t1⟩:=LW e0;rw[if_neg (by simp[e0])]at PO;by_cases hm:2000<(y plain)
  .rw[if_pos hm]at PO;have H6:2000<((y plain):Int):=by omega
   simp -implicitDefEqProofs only[go_sem,e0,H6,wz,z1];exact⟨⟨_,_,by rw[PO];rfl,⟨_,rfl,YB.nil _ _ _⟩,YB.nil _ _ _⟩,hBz⟩
  .rw[if_neg hm]at PO;have H6:¬2000<((y plain):Int):=by omega
   have y1:V.hc g1 ⟨h.size,1,R⟩=M (L D Z2):=by rw[Zn x0];rfl
   have y0:V.hc g1 ⟨h.size,0,R⟩=M (A p (y kl) c):=by rw[Zn x0];rfl
   by_cases hf:Z2=1073741824
   .rw[if_pos hf]at PO;have hf':(Z2=1073741824)=True:=eq_true hf;simp -implicitDefEqProofs only[go_sem,e0,H6,y1,hf',wz,z1];exact⟨⟨_,_,by rw[PO];rfl,⟨_,rfl,YB.nil _ _ _⟩,YB.nil _ _ _⟩,hBz⟩
   .rw[if_neg hf]at PO;rw[PO];obtain⟨n,rfl⟩:∃n:Nat,Z2=n:=⟨Z2.toNat,by omega⟩
    rw[W];simp -implicitDefEqProofs only[go_sem,e0,H6,y1,hf];refine (cI T _ n (by omega)).use ?_;rintro vh g2 ⟨oh,b2⟩;have z2:=b2.size;have x0':=b2.get (by omega) x0;have x1':=b2.get (by omega) x1;have y0':V.hc g2 ⟨h.size,0,R⟩=M (A p (y kl) c):=by rw[Zn x0'];rfl
    have Oe:=Ve.trans (b2.mono Ve.size);have HM:h.size<g2.size:=by omega
    simp -implicitDefEqProofs only[go_sem];refine VS.w (g2.size) [] (.q 0 (.q 1 (.q 2 (.q 4 (.q 5 (.s 3 (.s 6 (.q 7 (.q 8 (.q 9 (.q 10 (.q 11 .nil)))))))))))) mixed (by kernel_rfl) ?_;simp -implicitDefEqProofs only[go_sem,y0',HM];refine (LU T _ _ _ oh.bs (by simp[YJ])).use ?_;rintro vn g3 ⟨on,b3⟩;have z3:=b3.size;have b3T:Zj g2.size g2 g3=True:=eq_true b3;simp -implicitDefEqProofs only[go_sem,b3T];refine (Zdx T _ _ _ _ _ kl (XT (YJ n)) (YJ n) plain ((sk.Yz Oe).Yz b3) on.bs (oh.bs.Yz b3) ((sp.Yz Oe).Yz b3) ck on.cap).use ?_;rintro _ g4 ⟨⟨w4,rfl,o4⟩,b4⟩;have z4:=b4.size;have eS:Qd (y kl) (XT (YJ n)).length (YJ n).length (y plain) 2000=0:=by
     unfold Qd XT YJ;rw[if_neg];simp;omega
    rw[eS,if_pos rfl]at o4;rw[eS];have fX:Zj g2.size g2 g4:=b3.trans (b4.mono z3);have zF:Zj g2.size g2 g4=True:=eq_true fX;have Zuh:=fX.get (by omega) x0';have Zui:=fX.get (by omega) x1';have mZ:=Oe.trans (fX.mono Oe.size);have rC:rd g4 ⟨h.size,0,R⟩ 11=M (Yc (A p (y kl) c) n Z5 s):=Zy Zuh T5;simp -implicitDefEqProofs only[go_sem,zF,rC];refine (yE T _ _ kl n Z5 s hs (sk.Yz mZ) (by omega)).use ?_;rintro _ g5 ⟨⟨w5,rfl,o5⟩,b5⟩;have z5:=b5.size;obtain⟨pw,cw,rfl,_⟩:=o5.open;have Zmj:=b5.get (by omega) Zui;have HQ:=YP (A pw (y kl) cw) n Z5 s hs;have BN:=Xt HQ;have oD:=U1 (p:=pw) (n:=(y kl)) (c:=cw) n Z5 s;have lpD:∀v,Xd [v,L D 0,L D 0,H false,H false,H false,H false,H false,H false,H false,H false] 0 (Yc (A pw (y kl) cw) n Z5 s)=Yc (A pw (y kl) cw) n Z5 s:=fun v=>ZW HQ;have nD:nth (Yc (A pw (y kl) cw) n Z5 s) 1=M (L D n):=rfl;have e1:(n:Int)+1=((n+1:Nat):Int):=rfl;have sD:(Yc (A pw (y kl) cw) n Z5 s).set 1 (L D ((n+1:Nat):Int))=Yc (A pw (y kl) cw) ((n+1:Nat):Int) Z5 s:=rfl;have D8:=YP (A pw (y kl) cw) ((n+1:Nat):Int) Z5 s hs;have Zmk:=Xt D8;have oD':=U1 (p:=pw) (n:=(y kl)) (c:=cw) ((n+1:Nat):Int) Z5 s;simp -implicitDefEqProofs only[go_sem,HQ,BN,oD,lpD,nD,e1,sD];have rJ:rd (g5.push (K (Yc (A pw (y kl) cw) ((n+1:Nat):Int) Z5 s).toArray 66)) ⟨g5.size,0,R⟩ 11=M (Yc (A pw (y kl) cw) ((n+1:Nat):Int) Z5 s):=Zy Zc D8;have xJ:(g5.push (K (Yc (A pw (y kl) cw) ((n+1:Nat):Int) Z5 s).toArray 66))[g5.size]? = M (K (Yc (A pw (y kl) cw) ((n+1:Nat):Int) Z5 s).toArray 66):=Zc;have xZ:(g5.push (K (Yc (A pw (y kl) cw) ((n+1:Nat):Int) Z5 s).toArray 66))[h.size+1]? = M (K Vl.toArray 66):=by rw[ZJ (by omega)];exact Zmj
    have hB5:=mZ.trans (b5.mono mZ.size);have hBJ:Zj h.size h (g5.push (K (Yc (A pw (y kl) cw) ((n+1:Nat):Int) Z5 s).toArray 66)):=hB5.YX hB5.size _;have ohJ:=(oh.Yz (fX.trans (b5.mono (by omega))) (Q _)).push (K (Yc (A pw (y kl) cw) ((n+1:Nat):Int) Z5 s).toArray 66);have owJ:=o5.push (K (Yc (A pw (y kl) cw) ((n+1:Nat):Int) Z5 s).toArray 66);have o4J:=(o4.Yz b5 (Q _)).push (K (Yc (A pw (y kl) cw) ((n+1:Nat):Int) Z5 s).toArray 66);have zJ:(g5.push (K (Yc (A pw (y kl) cw) ((n+1:Nat):Int) Z5 s).toArray 66)).size=g5.size+1:=by simp
    have ZT:=oh.Zq.lt;have ya:=oh.Zq.ZZ;have Zml:=o5.Zq.ZZ;have ZGp:=o5.Zq.lt;have lS:(Ru kl (XT (YJ n)) (YJ n) plain).length<=2016:=by
     have l1:=JC kl 1 (XT (YJ n)) plain;have l2:(QJ kl (XT (YJ n)) (YJ n) (Wk kl 1 (XT (YJ n)) plain)).length<=16:=Gl _ _;unfold Ru;rw[al];omega
    have lh:(YJ n).length=4:=rfl;obtain⟨J,hJ⟩:=ZL (g5.push (K (Yc (A pw (y kl) cw) ((n+1:Nat):Int) Z5 s).toArray 66));rw[<-hJ]at rJ xJ xZ hBJ ohJ owJ o4J zJ ⊢;clear hJ;have key:∀v' h',YB g1.size 5 h' v' (YJ n++Ru kl (XT (YJ n)) (YJ n) plain)->Zj g1.size J h'->RT (Yf vh) J h' ->
      rd h' ⟨g5.size,0,R⟩ 11=M (Yc (A pw (y kl) cw) ((n+1:Nat):Int) Z5 s)/\wr h' ⟨h.size+1,0,R⟩ (Yc (A pw (y kl) cw) ((n+1:Nat):Int) Z5 s)=M (h'.setIfInBounds (h.size+1) (K (Yc (A pw (y kl) cw) ((n+1:Nat):Int) Z5 s).toArray 66)) /\
      (Zj (h.size+1) J h'=True)/\(Zj (h.size+1) J (h'.setIfInBounds (h.size+1) (K (Yc (A pw (y kl) cw) ((n+1:Nat):Int) Z5 s).toArray 66))=True)/\h.size+1<h'.size /\
      YB h.size 5 (h'.setIfInBounds (h.size+1) (K (Yc (A pw (y kl) cw) ((n+1:Nat):Int) Z5 s).toArray 66)) (A pw (y kl) cw) kl /\
      YB h.size 5 (h'.setIfInBounds (h.size+1) (K (Yc (A pw (y kl) cw) ((n+1:Nat):Int) Z5 s).toArray 66)) v' (TF kl n plain) /\
      Zj h.size h (h'.setIfInBounds (h.size+1) (K (Yc (A pw (y kl) cw) ((n+1:Nat):Int) Z5 s).toArray 66)):=by
     intro v' h' Mr Qi Ms;have xZ':=Qi.get (k:=h.size+1) (by omega) xZ;have xJ':h'[g5.size]? = M (K (Yc (A pw (y kl) cw) ((n+1:Nat):Int) Z5 s).toArray 66):=by
      rw[Ms.block g5.size (by omega) (fun e=>by have:=ZT _ e;omega)];exact xJ
     have ow':=owJ.mD Ms (fun b hb e=>by have:=Zml b hb;have:=ZT _ e;omega);have Bj:Zj (h.size+1) J h':=Qi.mono (by omega);exact⟨Zy xJ' D8,wrZ xZ' D8 oD',eq_true Bj,eq_true (Bj.Zt (Q _) _),Za xZ',(ow'.Ya (by omega) _).mono (by omega),(Mr.Ya (by omega) _).mono (by omega),(hBJ.trans (Qi.mono (by omega))).Zt (by omega) _⟩
    refine VS.w (h.size+1) [] (.q 1 (.q 2 (.or 0 (.s 3 (.s 4 (.q 5 (.q 6 .nil)))) (.s 3 (.s 0 (.s 4 (.q 5 (.q 6 .nil)))))))) mixed (by kernel_rfl) ?_;simp -implicitDefEqProofs only[go_sem,rJ];refine⟨?_,?_⟩
    .refine ZK (E:=5) (B:=g1.size) Xl U TA Sn Sm ohJ (by omega) o4J.bs (by omega) ?_;intro v' h' Mr Qi Ms;obtain⟨k1,k2,k3,k4,k5,k6,k7,k8⟩:=key v' h' Mr Qi Ms;simp -implicitDefEqProofs only[go_sem,k1,k2,k3,k4,k5,D8,Zmk];exact⟨⟨_,_,rfl,⟨_,rfl,k6⟩,k7⟩,k8⟩
    .refine ZK (E:=5) (B:=g1.size) Xl U TA Sn Sm ohJ (by omega) o4J.bs (by omega) ?_;intro v' h' Mr Qi Ms;obtain⟨k1,k2,k3,k4,k5,k6,k7,k8⟩:=key v' h' Mr Qi Ms;simp -implicitDefEqProofs only[go_sem,k1,k2,k3,k4,k5,D8,Zmk];exact⟨⟨_,_,rfl,⟨_,rfl,k6⟩,k7⟩,k8⟩
 .rw[if_pos e0]at PO;have e5:=(LV (y kl) Z2 Z5 s).resolve_left e0;simp -implicitDefEqProofs only[go_sem,e5,wz,z1];exact⟨⟨_,_,by rw[PO];rfl,⟨_,rfl,YB.nil _ _ _⟩,YB.nil _ _ _⟩,hBz⟩
def Dl(Z5:Int)(s:List Bool)(n:Nat):Bool:=decide ((n:Int)<Z5-8)||(decide ((n:Int)<Z5)&&s.getD ((n:Int)-(Z5-8)).toNat false)
theorem Zhx(h:Hp)(k:ab)(Z2 Z5:Int)(s:List Bool)(n:Nat)(hs:(y s)=8)(t0:0<=Z5)(t1:Z5<=1073741824)(hn:n<1073741824):
  Zd Z T 103 #[.agg (Yc k Z2 Z5 s).toArray,L D n] h fun v' h'=>v'=H (Dl Z5 s n)/\Zj h.size h h':=by
 have T5:=YP k Z2 Z5 s hs;have tk:=Xt T5;have n2:nth (Yc k Z2 Z5 s) 2=M (L D Z5):=rfl;refine Zd.XS [_,_] Tryz.func103 ?_;unfold Dl;by_cases q1:(n:Int)<Z5-8
 .have d1:decide ((n:Int)<Z5-8)=true:=decide_eq_true q1;simp -implicitDefEqProofs only[go_sem,T5,tk,n2,q1,d1,Bool.true_or]
 .have d1:decide ((n:Int)<Z5-8)=false:=decide_eq_false q1;by_cases q2:(n:Int)<Z5
  .have d2:decide ((n:Int)<Z5)=true:=decide_eq_true q2;obtain⟨i,hi⟩:∃i:Nat,(n:Int)-(Z5-8)=i:=⟨((n:Int)-(Z5-8)).toNat,pA⟩
   have hi8:i<8:=pA;have Zum:(i:Int)<8:=pA;have n3:nth (Yc k Z2 Z5 s) (3+i)=M (H (s.getD i false)):=by
    have:=Nc s i pA;rw[YU]at this ⊢;rw[<-this];show (k :: L D Z2 :: L D Z5 :: s.map Value.bool)[3+i]? = _;rw[Nat.add_comm];rfl
   simp -implicitDefEqProofs only[go_sem,T5,tk,n2,q1,q2,d1,d2,hi,Zum,W,n3,aw]
  .have d2:decide ((n:Int)<Z5)=false:=decide_eq_false q2;simp -implicitDefEqProofs only[go_sem,T5,tk,n2,q1,q2,d1,d2,aw]
theorem jE(k:ab)(Z2 Z5:Int)(s t:List Bool)(hs:(y s)=8)(ht:(y t)=8):Xd (Yc k Z2 Z5 s) 3 (t.map Value.bool)=Yc k Z2 Z5 t:=by
 have:=Tp [k,L D Z2,L D Z5] (s.map Value.bool) (t.map Value.bool);rw[ZW (by simp[hs,ht])]at this;exact this
set_option maxHeartbeats 1000000 in
theorem Zdz(h:Hp)(k:ab)(kl:List Nat)(Z2 Z5:Int)(s:List Bool)(n:Nat)(hs:(y s)=8)(sk:Bs h k kl)(hk:(y kl)<=140737488355328)(t0:0<=Z5)(t1:Z5<=1073741824)(hn:n<1073741824)(hm:¬(n:Int)<Z5-8):
  Zd Z T 105 #[.agg (Yc k Z2 Z5 s).toArray,L D n] h fun v' h'=>Bz h.size h' v' kl Z2 (max Z5 (n+1)) (JF (Pa Z5 s 8++[(n:Int)]) (max Z5 (n+1)))/\Zj h.size h h':=by
 obtain⟨p,c,rfl,_⟩:=sk.open;have T5:=YP (A p (y kl) c) Z2 Z5 s hs;have tk:=Xt T5;refine Zd.Lt [_,_] Tryz.func105 ?_;simp -implicitDefEqProofs only[go_sem,T5,tk];have Rq:Zj h.size h ((h.push (K (Yc (A p (y kl) c) Z2 Z5 s).toArray 66)).push (K Vl.toArray 66)):=by (repeat' (first|exact Zj.refl _ _|assumption|refine Zj.add ?_ _|refine Zj.Zt ?_ (by first|omega|(simp;omega)) _|refine Zj.trans (by assumption) ?_))
 refine (yE T _ _ kl Z2 Z5 s hs (sk.Yz Rq) hk).use ?_;rintro _ g1 ⟨⟨w,rfl,o1⟩,b1⟩;have x0:g1[h.size]? = M (K (Yc (A p (y kl) c) Z2 Z5 s).toArray 66):=b1.get (by simp only[O];omega) (by simp only[Y,O,aa,↓reduceIte]);have x1:g1[h.size+1]? = M (K Vl.toArray 66):=b1.get (by simp only[O];omega) (by simp only[Y,O,aa,↓reduceIte]<;>rfl);have Ve:Zj h.size h g1:=Rq.trans (b1.mono (by simp;omega));have z1:=Za x1;simp only[O]at o1;obtain⟨pw,cw,rfl,_⟩:=o1.open;clear b1 Rq;have y2:V.hc g1 ⟨h.size,2,R⟩=M (L D Z5):=by rw[Zn x0];rfl
 have HQ:=YP (A pw (y kl) cw) Z2 Z5 s hs;have BN:=Xt HQ;have oD:=U1 (p:=pw) (n:=(y kl)) (c:=cw) Z2 Z5 s;have lpD:∀v,Xd [v,L D 0,L D 0,H false,H false,H false,H false,H false,H false,H false,H false] 0 (Yc (A pw (y kl) cw) Z2 Z5 s)=Yc (A pw (y kl) cw) Z2 Z5 s:=fun v=>ZW HQ;have e1:(n:Int)+1=((n+1:Nat):Int):=rfl;obtain⟨TP,hTP⟩:∃TP:Int,TP=max Z5 (n+1):=⟨_,rfl⟩
 have yg:(if ((n+1:Nat):Int)>Z5 then ((n+1:Nat):Int) else Z5)=TP:=by rw[hTP];split<;>omega
 have sD:(Yc (A pw (y kl) cw) Z2 Z5 s).set 2 (L D TP)=Yc (A pw (y kl) cw) Z2 TP s:=rfl;have Zun:=YP (A pw (y kl) cw) Z2 TP s hs;have lE:Xd (Yc (A pw (y kl) cw) Z2 TP s) 3 [H false,H false,H false,H false,H false,H false,H false,H false]=Yc (A pw (y kl) cw) Z2 TP (JF (Pa Z5 s 0) TP):=jE (A pw (y kl) cw) Z2 TP s JS hs rfl;have y0r:rd g1 ⟨h.size,3,R⟩ 8=M (s.map Value.bool):=by
  have Od:(s.map Value.bool).length=8:=by rw[List.length_map,hs]
  have:=YL x0 (o:=3) (n:=8) (by rw[T5];omega);rw[this];have e:(Yc (A p (y kl) c) Z2 Z5 s).drop 3=s.map Value.bool:=rfl;rw[e,Xt Od]
 rw[<-hTP];simp -implicitDefEqProofs only[go_sem,HQ,BN,oD,lpD,y2,e1,yg,sD,Zun,lE,y0r];obtain⟨bo,hbo⟩:∃b,b=g1.size:=⟨_,rfl⟩
 obtain⟨J,hJ⟩:=ZL (g1.push (K (Yc (A pw (y kl) cw) Z2 TP (JF (Pa Z5 s 0) TP)).toArray 66));have J5:J[bo]? = M (K (Yc (A pw (y kl) cw) Z2 TP (JF (Pa Z5 s 0) TP)).toArray 66):=by rw[hJ,hbo];exact Zc
 have J0:J[h.size]? = M (K (Yc (A p (y kl) c) Z2 Z5 s).toArray 66):=by rw[hJ,ZJ (by omega)];exact x0
 have J1:J[h.size+1]? = M (K Vl.toArray 66):=by rw[hJ,ZJ (by omega)];exact x1
 have JB:Zj h.size h J:=by rw[hJ];exact Ve.YX Ve.size _
 have Jo:YB (h.size+1+1) 5 J (A pw (y kl) cw) kl:=by rw[hJ];exact o1.push _
 have Jlt:∀b,Yf (A pw (y kl) cw)=M b->b<bo:=fun b hb=>by have:=o1.Zq.lt b hb;omega
 have Jsz:J.size=bo+1:=by rw[hJ,O,hbo]
 rw[<-hJ,<-hbo];clear hJ;refine VS.Yk (fun F g=>F 1=L D n/\F 2=ag (M ⟨h.size,0,R⟩)/\F 4=ag (M ⟨h.size+1,0,R⟩)/\F 5=ag (M ⟨bo,0,R⟩)/\F 20=.agg (s.map Value.bool).toArray/\∃i:Nat,i<=8/\F 21=L D i/\g=J.setIfInBounds bo (K (Yc (A pw (y kl) cw) Z2 TP (JF (Pa Z5 s i) TP)).toArray 66))
  (fun F _=>8-(vi (F 21)).toNat) rfl ⟨rfl,rfl,rfl,rfl,rfl,0,by omega,rfl,(Vm J5).symm⟩ ?_
 rintro F g ⟨f1,f2,f4,f5,f20,i,hi,f21,rfl⟩;have hx:=Yd (o:=K (Yc (A pw (y kl) cw) Z2 TP (JF (Pa Z5 s i) TP)).toArray 66) J5;have P9:(J.setIfInBounds bo (K (Yc (A pw (y kl) cw) Z2 TP (JF (Pa Z5 s i) TP)).toArray 66))[h.size]? = M (K (Yc (A p (y kl) c) Z2 Z5 s).toArray 66):=by rw[X,if_neg (by omega)];exact J0
 have sl8:=SJ (Pa Z5 s i) TP;have XI:=qG Z5 s i;obtain⟨SS,hSS⟩:=ZL (JF (Pa Z5 s i) TP);by_cases ZT:i<8
 .have Z7:(i:Int)<8:=by omega
  rw[<-hSS]at hx P9 sl8 ⊢;obtain⟨G,hG⟩:=ZL (J.setIfInBounds bo (K (Yc (A pw (y kl) cw) Z2 TP SS).toArray 66));rw[<-hG]at hx P9 ⊢;have n1:=Nc s i (by omega);have y2:V.hc G ⟨h.size,2,R⟩=M (L D Z5):=by rw[Zn P9];rfl
  have y5:V.hc G ⟨bo,2,R⟩=M (L D TP):=by rw[Zn hx];rfl
  obtain⟨b,hb⟩:=ZL (s.getD i false);rw[<-hb]at n1 XI
  cases b with
  | false=>
   rw[if_neg (by decide),List.append_nil]at XI;simp -implicitDefEqProofs only[go_sem,f1,f2,f4,f5,f20,f21,Z7,W,n1,y2,y5];refine⟨⟨f1,f2,f4,f5,f20,i+1,ZT,rfl,?_⟩,?_⟩
   .rw[XI,hG,hSS]
   .simp only[vi,Zr,↓reduceIte,f21];omega
  | true=>
   rw[if_pos rfl]at XI;have ju:=IS (Pa Z5 s i) TP (Z5-8+(i:Int)) (by omega);rw[<-XI,<-hSS]at ju;have ex:Z5-8+(i:Int)-TP+8=Z5+(i:Int)-TP:=by omega
   rw[ex]at ju;by_cases hk0:0<=Z5+(i:Int)-TP
   .rw[if_pos hk0]at ju;obtain⟨j,hj⟩:∃j:Nat,Z5+(i:Int)-TP=j:=⟨(Z5+(i:Int)-TP).toNat,by omega⟩
    rw[hj,W]at ju;have hj8:(j:Int)<8:=by omega
    have hj0:(0:Int)<=(j:Int):=by omega
    have ZGu:j<8:=by omega
    have hlen:=YP (A pw (y kl) cw) Z2 TP SS sl8;have w1:QX G ⟨bo,3+j,R⟩ (H true)=M (G.setIfInBounds bo (K (Yc (A pw (y kl) cw) Z2 TP (SS.set j true)).toArray 66)):=by
     rw[Xj hx,if_pos ⟨by rw[hlen];omega,rfl⟩,aZ]
    simp -implicitDefEqProofs only[go_sem,f1,f2,f4,f5,f20,f21,Z7,W,n1,y2,y5,hj,hj0,hj8,w1];refine⟨⟨f1,f2,f4,f5,f20,i+1,ZT,rfl,?_⟩,?_⟩
    .rw[ju,hG,set_set]
    .simp only[vi,Zr,↓reduceIte,f21];omega
   .rw[if_neg hk0]at ju;simp -implicitDefEqProofs only[go_sem,f1,f2,f4,f5,f20,f21,Z7,W,n1,y2,y5,hk0];refine⟨⟨f1,f2,f4,f5,f20,i+1,ZT,rfl,?_⟩,?_⟩
    .rw[ju,hG]
    .simp only[vi,Zr,↓reduceIte,f21];omega
 .have Xv:¬(i:Int)<8:=by omega
  obtain rfl:i=8:=by omega
  have c8:((8:Nat):Int)=8:=rfl;rw[c8]at f21 Xv;have ju:=IS (Pa Z5 s 8) TP (n:Int) (by omega);rw[if_pos (by omega),<-hSS]at ju;have Wf:(J.setIfInBounds bo (K (Yc (A pw (y kl) cw) Z2 TP (JF (Pa Z5 s 8) TP)).toArray 66))[h.size+1]? = M (K Vl.toArray 66):=by rw[X,if_neg (by omega)];exact J1
  have HB:=JB.Zt (b:=bo) (by omega) (K (Yc (A pw (y kl) cw) Z2 TP (JF (Pa Z5 s 8) TP)).toArray 66);have HO:YB (h.size+1+1) 5 (J.setIfInBounds bo (K (Yc (A pw (y kl) cw) Z2 TP (JF (Pa Z5 s 8) TP)).toArray 66)) (A pw (y kl) cw) kl:=
   Jo.mD (x:=M bo) ⟨by simp,fun b hb Y7=>by rw[X,if_neg (fun e=>Y7 (by rw[e]))]⟩ (fun b hb e=>by have:=Jlt b hb;simp at e;omega)
  rw[<-hSS]at hx Wf HB HO sl8 ⊢;obtain⟨j,hj⟩:∃j:Nat,(n:Int)-(TP-8)=j:=⟨((n:Int)-(TP-8)).toNat,by omega⟩
  have hj2:(n:Int)-TP+8=j:=by omega
  rw[hj2,W]at ju;have hj8:(j:Int)<8:=by omega
  have hlen:=YP (A pw (y kl) cw) Z2 TP SS sl8;obtain⟨G,hG⟩:=ZL (J.setIfInBounds bo (K (Yc (A pw (y kl) cw) Z2 TP SS).toArray 66));rw[<-hG]at hx Wf HB HO ⊢;have y5:V.hc G ⟨bo,2,R⟩=M (L D TP):=by rw[Zn hx];rfl
  have w1:QX G ⟨bo,3+j,R⟩ (H true)=M (G.setIfInBounds bo (K (Yc (A pw (y kl) cw) Z2 TP (SS.set j true)).toArray 66)):=by
   rw[Xj hx,if_pos ⟨by rw[hlen];omega,rfl⟩,aZ]
  rw[ju];have Zmn:(SS.set j true).length=8:=by rw[List.length_set];exact sl8
  obtain⟨S2,hS2⟩:=ZL (SS.set j true);rw[<-hS2]at w1 Zmn ⊢;have nu:=YP (A pw (y kl) cw) Z2 TP S2 Zmn;have o2:=U1 (p:=pw) (n:=(y kl)) (c:=cw) Z2 TP S2;have tk2:=Xt nu;have hxb:=Yd (o:=K (Yc (A pw (y kl) cw) Z2 TP S2).toArray 66) hx;have rb:=Zy hxb nu;have Zup:(G.setIfInBounds bo (K (Yc (A pw (y kl) cw) Z2 TP S2).toArray 66))[h.size+1]? = M (K Vl.toArray 66):=by rw[X,if_neg (by omega)];exact Wf
  have w2:=wrZ Zup nu o2;have k5:=Za Wf;have HO2:YB (h.size+1+1) 5 (G.setIfInBounds bo (K (Yc (A pw (y kl) cw) Z2 TP S2).toArray 66)) (A pw (y kl) cw) kl:=
   HO.mD (x:=M bo) ⟨by simp,fun b hb Y7=>by rw[X,if_neg (fun e=>Y7 (by rw[e]))]⟩ (fun b hb e=>by have:=Jlt b hb;simp at e;omega)
  have HB2:=(HB.Zt (b:=bo) (by omega) (K (Yc (A pw (y kl) cw) Z2 TP S2).toArray 66)).Zt (b:=h.size+1) (by omega) (K (Yc (A pw (y kl) cw) Z2 TP S2).toArray 66);simp -implicitDefEqProofs only[go_sem,f1,f2,f4,f5,f20,f21,Xv,y5,hj,hj8,W,w1,rb,w2,nu,tk2,k5];exact⟨⟨_,rfl,(HO2.Ya (by omega) _).mono (by omega)⟩,HB2⟩
theorem zH{a b c d:Nat}(ha:a<256)(hb:b<256)(hc:c<256)(hd:d<256):YO .or D (YO .or D (YO .or D (Xr D (a:Int) 24) (Xr D (b:Int) 16)) (Xr D (c:Int) 8)) (d:Int)=((16777216*a+65536*b+256*c+d:Nat):Int):=by
 have e1:Xr D (a:Int) 24=((a*16777216:Nat):Int):=Rk ha 24 pA;have e2:Xr D (b:Int) 16=((b*65536:Nat):Int):=Rk hb 16 pA;have e3:Xr D (c:Int) 8=((c*256:Nat):Int):=Rk hc 8 pA;have f1:a*16777216 ||| b*65536=a*16777216+b*65536:=Uw (k:=24) pA pA
 have f2:(a*16777216+b*65536) ||| c*256=a*16777216+b*65536+c*256:=Uw (k:=16) pA pA
 rw[e1,e2,e3,Mp _ _ pA pA,f1,Mp _ _ pA pA,f2,Mp _ _ pA pA,Uw (k:=8) pA pA]
 congr 1;omega
def VD(l:List Nat):Nat:=16777216*l.getD 0 0+65536*l.getD 1 0+256*l.getD 2 0+l.getD 3 0
theorem jF{l:List Nat}(w:∀x∈l,x<256)(hl:4<=(y l)):YJ (VD l)=l.take 4:=by
 match l,hl with
 | a :: b :: c :: d :: l,_=>
  have h1:=w a IQ;have h2:=w b IQ;have h3:=w c IQ;have h4:=w d IQ;show [_,_,_,_]=[a,b,c,d]
  have e:VD (a :: b :: c :: d :: l)=16777216*a+65536*b+256*c+d:=rfl;rw[e]
  congr 1
  .omega
  .congr 1
   .omega
   .congr 1
    .omega
    .congr 1
     omega
theorem Zhz{a b c d:Nat}(ha:a<256)(hb:b<256)(hc:c<256)(hd:d<256):16777216*a+65536*b+256*c+d<4294967296:=pA
theorem ZdA(l:List Nat):VD l=16777216*l.getD 0 0+65536*l.getD 1 0+256*l.getD 2 0+l.getD 3 0:=by unfold VD;rfl
def Wl(kl:List Nat)(Z2 Z5:Int)(s:List Bool)(rc:List Nat):Int:=
 if Ji (y kl) Z2 Z5 s≠0 then 5 else if 2020<(y rc) then 1 else if (y rc)<20 then 13 else if 1073741824<=VD rc then 2 else
 if Dl Z5 s (VD rc)=true then 7 else No kl (XT (YJ (VD rc))) (YJ (VD rc)) (rc.drop 4)
def D9(kl rc:List Nat):List Nat:=np kl (XT (YJ (VD rc))) (rc.drop 4)
def I4(Z5:Int)(s:List Bool)(n:Nat):List Bool:=JF (Pa Z5 s 8++[(n:Int)]) (max Z5 (n+1))
def BV(B:Nat)(h':Hp)(v':ab)(kl:List Nat)(Z2 Z5:Int)(s:List Bool)(rc:List Nat):Prop:=∃cw w,v'=.tuple [cw,w,L D (Wl kl Z2 Z5 s rc)].toArray /\
 nt B h' cw (Wl kl Z2 Z5 s rc) kl Z2 (max Z5 (VD rc+1)) (I4 Z5 s (VD rc))/\YB B 5 h' w (if Wl kl Z2 Z5 s rc=0 then D9 kl rc else [])
theorem zI{Z5:Int}{s:List Bool}{n:Nat}(h:¬Dl Z5 s n=true):¬(n:Int)<Z5-8:=by
 intro ZT;apply h;unfold Dl;rw[decide_eq_true ZT];rfl
set_option maxHeartbeats 2000000 in
theorem cK(h:Hp)(k u:ab)(kl rc:List Nat)(Z2 Z5:Int)(s:List Bool)(hs:(y s)=8)(sk:Bs h k kl)(sp:Bs h u rc)(ck:RY k)(cu:RY u):
  Zd Z T 81 #[.agg (Yc k Z2 Z5 s).toArray,u] h fun v' h'=>BV h.size h' v' kl Z2 Z5 s rc/\Zj h.size h h':=by
 have wr':=sp.byte;obtain⟨p,c,rfl,_⟩:=sk.open;obtain⟨q,d,rfl,hqc⟩:=sp.VM;have cu:(y rc)<=d:=cu;have T5:=YP (A p (y kl) c) Z2 Z5 s hs;have tk:=Xt T5;refine Zd.Lt [_,_] Tryz.func81 ?_;simp -implicitDefEqProofs only[go_sem,T5,tk];have Rq:Zj h.size h ((h.push (K (Yc (A p (y kl) c) Z2 Z5 s).toArray 66)).push (K Vl.toArray 66)):=by (repeat' (first|exact Zj.refl _ _|assumption|refine Zj.add ?_ _|refine Zj.Zt ?_ (by first|omega|(simp;omega)) _|refine Zj.trans (by assumption) ?_))
 refine (Ly T _ p (y kl) c Z2 Z5 s hs).use ?_;rintro _ g1 ⟨rfl,b1⟩;have x0:g1[h.size]? = M (K (Yc (A p (y kl) c) Z2 Z5 s).toArray 66):=b1.get (by simp only[O];omega) (by simp only[Y,O,aa,↓reduceIte]);have x1:g1[h.size+1]? = M (K Vl.toArray 66):=b1.get (by simp only[O];omega) (by simp only[Y,O,aa,↓reduceIte]<;>rfl);have Ve:Zj h.size h g1:=Rq.trans (b1.mono (by simp;omega));have z1:=Za x1;clear b1 Rq;have PO:Wl kl Z2 Z5 s rc=if Ji (y kl) Z2 Z5 s≠0 then 5 else if 2020<(y rc) then 1 else if (y rc)<20 then 13 else if 1073741824<=VD rc then 2 else
 if Dl Z5 s (VD rc)=true then 7 else No kl (XT (YJ (VD rc))) (YJ (VD rc)) (rc.drop 4):=rfl
 unfold BV nt D9;have hbe:VD rc=16777216*rc.getD 0 0+65536*rc.getD 1 0+256*rc.getD 2 0+rc.getD 3 0:=ZdA rc;have h4:4<=(y rc)->YJ (VD rc)=rc.take 4:=fun hl=>jF wr' hl;obtain⟨E,hE⟩:=ZL (Wl kl Z2 Z5 s rc);rw[<-hE]at PO ⊢;clear hE;obtain⟨n,hn⟩:=ZL (VD rc);rw[<-hn]at PO hbe h4 ⊢;clear hn;have wz:∀g:Hp,g[h.size+1]? = M (K Vl.toArray 66)->wr g ⟨h.size+1,0,R⟩ [A R 0 0,L D 0,L D 0,H false,H false,H false,H false,H false,H false,H false,H false]=M (g.setIfInBounds (h.size+1) (K [A R 0 0,L D 0,L D 0,H false,H false,H false,H false,H false,H false,H false,H false].toArray 66)):=fun g hg=>wrZ hg rfl rfl;have hBz:∀g:Hp,Zj h.size h g->Zj h.size h (g.setIfInBounds (h.size+1) (K #[A R 0 0,L D 0,L D 0,H false,H false,H false,H false,H false,H false,H false,H false] 66)):=fun g hg=>hg.Zt (by omega) _;have wz1:=wz g1 x1;by_cases e0:Ji (y kl) Z2 Z5 s=0
 .obtain⟨hk,s0,s1,t0,t1⟩:=LW e0;rw[if_neg (by simp[e0])]at PO;by_cases hm:2020<(y rc)
  .rw[if_pos hm]at PO;have H6:2020<((y rc):Int):=by omega
   simp -implicitDefEqProofs only[go_sem,e0,H6,wz1,z1];exact⟨⟨_,_,by rw[PO];rfl,⟨_,rfl,YB.nil _ _ _⟩,YB.nil _ _ _⟩,hBz _ Ve⟩
  .rw[if_neg hm]at PO;have H6:¬2020<((y rc):Int):=by omega
   by_cases rR:(y rc)<20
   .rw[if_pos rR]at PO;have ZhA:((y rc):Int)<20:=by omega
    simp -implicitDefEqProofs only[go_sem,e0,H6,ZhA,wz1,z1];exact⟨⟨_,_,by rw[PO];rfl,⟨_,rfl,YB.nil _ _ _⟩,YB.nil _ _ _⟩,hBz _ Ve⟩
   .rw[if_neg rR]at PO;have ZhA:¬((y rc):Int)<20:=by omega
    obtain⟨bb,oo,rfl,TC,hqc⟩:=hqc (by intro e;rw[e]at rR;simp at rR);have u0:V.hc g1 ⟨bb,oo+0,R⟩=M (L .u8 (rc.getD 0 0:Nat)):=by rw[Ve.hc (by exact TC)];exact hqc 0 (by omega)
    have u1:V.hc g1 ⟨bb,oo+1,R⟩=M (L .u8 (rc.getD 1 0:Nat)):=by rw[Ve.hc (by exact TC)];exact hqc 1 (by omega)
    have u2:V.hc g1 ⟨bb,oo+2,R⟩=M (L .u8 (rc.getD 2 0:Nat)):=by rw[Ve.hc (by exact TC)];exact hqc 2 (by omega)
    have u3:V.hc g1 ⟨bb,oo+3,R⟩=M (L .u8 (rc.getD 3 0:Nat)):=by rw[Ve.hc (by exact TC)];exact hqc 3 (by omega)
    rw[Nat.add_zero]at u0;have w0:=Z4 wr' 0;have w1:=Z4 wr' 1;have w2:=Z4 wr' 2;have w3:=Z4 wr' 3;have h4:=h4 (by omega);have s4:=Nl sp (m:=4) (by omega) 4;rw[<-h4]at s4;generalize rc.getD 0 0=r0 at *;generalize rc.getD 1 0=r1 at *;generalize rc.getD 2 0=r2 at *;generalize rc.getD 3 0=r3 at *;have Zmo:Unit->_:=fun _=>PO;clear PO;have Ztr:n<4294967296:=by rw[hbe];exact Zhz w0 w1 w2 w3
    have d4:(4:Int)<=d:=by omega
    have sh:Unit->YO .or D (YO .or D (YO .or D (Xr D (r0:Int) 24) (Xr D (r1:Int) 16)) (Xr D (r2:Int) 8)) (r3:Int)=(n:Int):=fun _=>by rw[zH w0 w1 w2 w3,hbe]
    clear hbe;simp -implicitDefEqProofs only[go_sem,e0,H6,ZhA,d4];refine VS.mono (N:=fun F g=>g1=g/\F 1=A (M ⟨bb,oo,R⟩) (y rc) d/\F 2=ag (M ⟨h.size,0,R⟩)/\F 4=ag (M ⟨h.size+1,0,R⟩)/\F 8=A (M ⟨bb,oo,R⟩) 4 4/\F 9=L D n) ?_ ?_ (fun _ _ _ h=>h) (fun _ _ h=>h)
    .refine VS.q mixed (by kernel_rfl) ?_;simp -implicitDefEqProofs only[go_sem,u0,u1,u2,u3];exact congrArg _ (sh ())
    clear sh w0 w1 w2 w3;have PO:=Zmo ();clear Zmo;rintro F _ ⟨rfl,f1,f2,f4,f8,f9⟩;by_cases hb:1073741824<=n
    .rw[if_pos hb]at PO;have Qi:(1073741824:Int)<=(n:Int):=by clear PO;omega
     simp -implicitDefEqProofs only[go_sem,f1,f2,f4,f8,f9,Qi,wz1,z1];exact⟨⟨_,_,by rw[PO];rfl,⟨_,rfl,YB.nil _ _ _⟩,YB.nil _ _ _⟩,hBz _ Ve⟩
    .rw[if_neg hb]at PO;have Qi:¬(1073741824:Int)<=(n:Int):=by clear PO;omega
     have rC:rd g1 ⟨h.size,0,R⟩ 11=M (Yc (A p (y kl) c) Z2 Z5 s):=Zy x0 T5;simp -implicitDefEqProofs only[go_sem,f1,f2,f4,f8,f9,Qi,rC];refine (Zhx T _ _ Z2 Z5 s n hs t0 t1 (by clear PO;omega)).use ?_;rintro _ g2 ⟨rfl,b2⟩;have x02:=b2.get (Nat.lt_of_succ_lt z1) x0;have x12:=b2.get z1 x1;have z2:=b2.size;have Oe:=Ve.trans (b2.mono Ve.size);have wz2:=wz g2 x12;have zl2:=Za x12;by_cases zK:Dl Z5 s n=true
     .rw[if_pos zK]at PO;simp -implicitDefEqProofs only[go_sem,f1,f2,f4,f8,f9,zK,wz2,zl2];exact⟨⟨_,_,by rw[PO];rfl,⟨_,rfl,YB.nil _ _ _⟩,YB.nil _ _ _⟩,hBz _ Oe⟩
     .rw[if_neg zK]at PO;have Zl2:=zI zK;have Zmq:Dl Z5 s n=false:=by simpa using zK
      have y0:V.hc g2 ⟨h.size,0,R⟩=M (A p (y kl) c):=by rw[Zn x02];rfl
      have zl0:=Za x02;have l4:(YJ n).length=4:=rfl;have l12:(XT (YJ n)).length<=1000:=by simp[XT,YJ]
      have sbk:=Ng sp rfl (k:=4) (by omega) cu (d-4);have Zuq:(4:Int)<=(y rc):=by clear PO;omega
      simp -implicitDefEqProofs only[go_sem,f1,f2,f4,f8,f9,Zmq];refine VS.w (g2.size) [] (.q 0 (.q 1 (.q 2 (.q 4 (.q 5 (.q 6 (.s 3 (.s 7 (.q 8 (.q 9 (.q 10 (.q 11 (.q 12 .nil))))))))))))) mixed (by kernel_rfl) ?_;simp -implicitDefEqProofs only[go_sem,f1,f2,f4,f8,f9,y0,zl0,Zuq,WM];refine (LU T _ _ _ (s4.Yz Oe) (by rw[l4];decide)).use ?_;rintro vn g3 ⟨on,b3⟩;have z3:=b3.size;have b3T:Zj g2.size g2 g3=True:=eq_true b3;have hB3:=Oe.trans (b3.mono Oe.size);simp -implicitDefEqProofs only[go_sem,f1,f2,f4,f8,f9,b3T];refine (Zdy T _ _ _ _ _ kl (XT (YJ n)) (YJ n) (rc.drop 4) (sk.Yz hB3) on.bs (s4.Yz hB3) (sbk.Yz hB3) ck on.cap (show (y rc)-4<=d-4 by omega)).use ?_;rintro _ g4 ⟨⟨w4,rfl,o4⟩,b4⟩;have z4:=b4.size;have fX:Zj g2.size g2 g4:=b3.trans (b4.mono z3);have zF:Zj g2.size g2 g4=True:=eq_true fX;rw[<-PO]at o4 ⊢;have x14:=fX.get zl2 x12;have x04:=fX.get zl0 x02;have mZ:=Oe.trans (fX.mono Oe.size);have wz4:=wz g4 x14;have zl4:=Za x14;clear PO;by_cases hE0:E=0
      .subst hE0;rw[if_pos rfl]at o4;have rC4:rd g4 ⟨h.size,0,R⟩ 11=M (Yc (A p (y kl) c) Z2 Z5 s):=Zy x04 T5;simp -implicitDefEqProofs only[go_sem,f1,f2,f4,f8,f9,zF,rC4];refine (Zdz T _ _ kl Z2 Z5 s n hs (sk.Yz mZ) (by omega) t0 t1 (by omega) Zl2).use ?_;rintro _ g5 ⟨⟨w5,rfl,o5⟩,b5⟩;have x15:=b5.get zl4 x14;have z5:=b5.size;obtain⟨pw,cw,rfl,_⟩:=o5.open;have l8:(I4 Z5 s n).length=8:=SJ _ _;have HQ:=YP (A pw (y kl) cw) Z2 (max Z5 ((n:Int)+1)) (I4 Z5 s n) l8;have oD:=U1 (p:=pw) (n:=(y kl)) (c:=cw) Z2 (max Z5 ((n:Int)+1)) (I4 Z5 s n);have BN:=Xt HQ;have wD:=wrZ x15 HQ oD;have zl5:=Za x15;rw[show JF (Pa Z5 s 8++[(n:Int)]) (max Z5 ((n:Int)+1))=I4 Z5 s n from rfl];have o4':=o4.Yz b5 (Q _);obtain⟨C5,hC5⟩:=ZL (Yc (A pw (y kl) cw) Z2 (max Z5 ((n:Int)+1)) (I4 Z5 s n));rw[<-hC5]at HQ oD BN wD ⊢;simp -implicitDefEqProofs only[go_sem,f1,f2,f4,f8,f9,zF,wD,HQ,BN,zl5];exact⟨⟨_,_,rfl,⟨_,by rw[hC5],(o5.Ya (by omega) _).mono (by omega)⟩,(o4'.Ya (by omega) _).mono (by omega)⟩,(mZ.trans (b5.mono mZ.size)).Zt (by omega) _⟩
      .rw[if_neg hE0]at o4;simp -implicitDefEqProofs only[go_sem,f1,f2,f4,f8,f9,zF,hE0,wz4,zl4];exact⟨⟨_,_,rfl,⟨_,rfl,YB.nil _ _ _⟩,YB.nil _ _ _⟩,hBz _ mZ⟩
 .rw[if_pos e0]at PO;have e5:=(LV (y kl) Z2 Z5 s).resolve_left e0;simp -implicitDefEqProofs only[go_sem,e5,wz1,z1];exact⟨⟨_,_,by rw[PO];rfl,⟨_,rfl,YB.nil _ _ _⟩,YB.nil _ _ _⟩,hBz _ Ve⟩
end Go.Proofs.YthlfaofofaphfaaGreatDoor
