/- Part Takf. -/
import Derived.Test.YtdapjaalaomghaaGreatDoorPolg
import Derived.Test.YtdapjaalaomghaaGreatDoorMix
import Derived.Test.YtdapjaalaomghaaGreatDoorBytes
import Derived.Test.YtdapjaalaomghaaGreatDoorVst
import Derived.Test.YtdapjaalaomghaaGreatDoorW15
import Derived.Test.YtdapjaalaomghaaGreatDoorLine
import Derived.Test.YtdapjaalaomghaaGreatDoorW13
open Go.Value renaming slice→A,bool→H,int→L,pointer→al
open Go.IntKind renaming i64→D
open Go.Obj renaming cells→K
open Go.Proofs.Tryz renaming underlying26→U,prog→Z
open List renaming length→y,replicate→ae,length_append→am
open Nat renaming le_refl→Q,shiftRight_eq_div_pow→ao
open Int renaming toNat_natCast→W
open Option renaming some→M,none→R
open Array renaming size_push→O,getElem?_setIfInBounds→X,getElem?_push→Y
open Bool renaming false_or→aq
open Go.IntWalk renaming iteOmega→aa
open Go renaming Value→ab
namespace Go.Proofs.YtdapjaalaomghaaGreatDoor
open Go Go.V
set_option linter.all false
set_option maxRecDepth 100000
variable(T:World)
def qB(l:List Nat):List Nat:=l++ae ((16-(y l)%16)%16) 0
def bE(n:Nat):List Nat:=(List.range 8).map fun i=>n/256 ^ i%256
def Ro(Zh QJ:List Nat):List Nat:=qB Zh++qB QJ++bE (y Zh)++bE (y QJ)
def QB(key ZC Zh QJ:List Nat):List Nat:=iU ((Jq key 0 ZC).take 32) (Ro Zh QJ)
theorem bF(l:List Nat):(qB l).length=(y l)+(16-(y l)%16)%16:=by simp[qB]
theorem HW(l:List Nat):(qB l).length<=(y l)+15:=by rw[bF];omega
theorem QV(n:Nat):(bE n).length=8:=by simp[bE]
theorem DK(h:Hp)(v:ab)(l:List Nat)(s:Bs h v l)(hl:(y l)<=4000):
  Zd Z T 61 #[v] h fun v' h'=>Yx h.size 5 h' v' (qB l)/\Zj h.size h h':=by
 obtain⟨p,c,rfl,WE⟩:=s.open;refine Zd.XT [_] Tryz.func61 ?_;simp -implicitDefEqProofs only[go_sem];refine ZJ (E:=5) (B:=h.size) Xd U Tv Si Sh (Yx.nil _ _ _) (Q _) s Ig ?_;intro v1 h1 o1 b1 _;rw[List.nil_append]at o1;have e1:(((y l):Nat):Int).tmod 16=(((y l)%16:Nat):Int):=rfl;have e2:(16:Int)-(((y l)%16:Nat):Int)=((16-(y l)%16:Nat):Int):=nT;have e3:((16-(y l)%16:Nat):Int).tmod 16=(((16-(y l)%16)%16:Nat):Int):=rfl;simp -implicitDefEqProofs only[go_sem,e1,e2,e3];refine GH (E:=5) (B:=h.size) Xd Tryz.underlying3 Tv Si Sh o1 b1.size nT ?_;intro v2 h2 o2 b2 _;simp -implicitDefEqProofs only[go_sem];exact⟨o2,b1.trans b2⟩
theorem DL(h:Hp)(n:Nat)(hn:n<9223372036854775808):
  Zd Z T 62 #[L D n] h fun v' h'=>Yx h.size 5 h' v' (bE n)/\Zj h.size h h':=by
 refine Zd.XT [_] Tryz.func62 ?_;simp -implicitDefEqProofs only[go_sem];refine VS.Yk (fun F g=>Zj h.size h g/\F 0=L D n/\∃j:Nat,j<=8/\F 4=L D (8*j:Nat)/\Yx h.size 5 g (F 3) ((bE n).take j))
  (fun F _=>64-(vi (F 4)).toNat) rfl ⟨Zj.refl _ _,rfl,0,nT,rfl,Yx.nil _ _ _⟩ ?_
 rintro F g ⟨hg,f0,j,hj,f4,ho⟩;have Oo:=hg.size;by_cases ZS:j<8
 .have Z7:((8*j:Nat):Int)<64:=nT;have e1:XA D (n:Int) ((8*j:Nat):Int)=((n/256 ^ j:Nat):Int):=by
   rw[OX D n (8*j) (by show 8*j<=64;omega),ao,Nat.pow_mul]
  have e2:((n/256 ^ j:Nat):Int)%256=((n/256 ^ j%256:Nat):Int):=rfl;have e3:¬((8*j:Nat):Int)<0:=nT;have e4:((8*j:Nat):Int)+8=((8*(j+1):Nat):Int):=nT;simp -implicitDefEqProofs only[go_sem,f0,f4,Z7,e1,e2,e3];have hX:n/256 ^ j%256<256:=Nat.mod_lt _ Iw;refine ZJ (E:=5) (B:=h.size) Xd U Tv Si Sh (ho.push _) Ig (Bs.one hX 1) (by simp[QV];omega) ?_;intro v' h' Me J9 _;simp -implicitDefEqProofs only[go_sem,f0,f4,e4];refine⟨⟨(hg.YU Oo _).trans J9,f0,j+1,ZS,rfl,?_⟩,?_⟩
  .rw[Y1 _ j (by rw[QV];exact ZS)];have e:(bE n)[j]'(by rw[QV];exact ZS)=n/256 ^ j%256:=by simp[bE]
   rw[e];exact Me
  .simp only[vi,Zq,↓reduceIte,f4];omega
 .have Xv:¬((8*j:Nat):Int)<64:=nT;obtain rfl:j=8:=nT;rw[List.take_of_length_le (by rw[QV];exact Q _)]at ho;simp -implicitDefEqProofs only[go_sem,f0,f4,Xv];exact⟨ho,hg⟩
theorem NU{key ZC:List Nat}{k:Int}(hk:(y key)=32)(hn:(y ZC)=12)(h0:0<=k)(h1:k<=1073741824):JT key k ZC=0:=by
 unfold JT;rw[if_neg nT,if_neg nT]
theorem EX(key:List Nat)(k:Nat)(ZC:List Nat):(Jq key k ZC).length=64:=by simp[Jq,EQ]
theorem bH{Zh QJ:List Nat}(hk:(y Zh)<=256)(hs:(y QJ)<=2000):(Ro Zh QJ).length<=2400:=by
 unfold Ro;have h1:=HW Zh;have h2:=HW QJ;simp only[am,QV];omega
theorem bI{key data:List Nat}(hk:(y key)=32)(hd:(y data)<=4000):SL key data=0:=by
 unfold SL;rw[if_neg nT]
set_option maxHeartbeats 1000000 in
theorem IG(h:Hp)(v u kn sv:ab)(key ZC Zh QJ:List Nat)(sk:Bs h v key)(sn:Bs h u ZC)(sw:Bs h kn Zh)(ss:Bs h sv QJ)(hk:(y key)=32)(hn:(y ZC)=12)(hw:(y Zh)<=256)(hs:(y QJ)<=2000)(ck:PM v)(cn:PM u):
  Zd Z T 45 #[v,u,kn,sv] h fun v' h'=>Yx h.size 5 h' v' (QB key ZC Zh QJ)/\Zj h.size h h':=by
 obtain⟨pw,cw,rfl,_⟩:=sw.open;obtain⟨ps,cs,rfl,_⟩:=ss.open;refine Zd.XT [_,_,_,_] Tryz.func45 ?_;simp -implicitDefEqProofs only[go_sem];refine (xO T _ _ _ key ZC 0 sk sn ck cn).use ?_;rintro _ h1 ⟨⟨w1,rfl,o1⟩,b1⟩;have e0:=NU (k:=0) hk hn Iw Iw;rw[e0,if_pos rfl]at o1;rw[e0];have o1:Yx h.size 5 h1 w1 (Jq key 0 ZC):=o1;have z1:=b1.size;simp -implicitDefEqProofs only[go_sem];refine (DK T _ _ Zh (sw.Yz b1) nT).use ?_;rintro v2 h2 ⟨o2,b2⟩;have z2:=b2.size;have B2:=b1.trans (b2.mono z1);simp -implicitDefEqProofs only[go_sem];refine (DK T _ _ QJ (ss.Yz B2) nT).use ?_;rintro v3 h3 ⟨o3,b3⟩;have z3:=b3.size;have B3:=B2.trans (b3.mono nT);have l1:=HW Zh;have l2:=HW QJ;simp -implicitDefEqProofs only[go_sem];refine ZJ (E:=5) (B:=h1.size) Xd U Tv Si Sh (o2.Yz b3 (Q _)) nT o3.bs nT ?_;intro v4 h4 o4 b4 _;have z4:=b4.size;simp -implicitDefEqProofs only[go_sem];refine (DL T _ (y Zh) nT).use ?_;rintro v5 h5 ⟨o5,b5⟩;have z5:=b5.size;simp -implicitDefEqProofs only[go_sem];refine ZJ (E:=5) (B:=h1.size) Xd U Tv Si Sh (o4.Yz b5 (Q _)) nT o5.bs (by simp only[am,QV];omega) ?_;intro v6 h6 o6 b6 _;have z6:=b6.size;simp -implicitDefEqProofs only[go_sem];refine (DL T _ (y QJ) nT).use ?_;rintro v7 h7 ⟨o7,b7⟩;have z7:=b7.size;simp -implicitDefEqProofs only[go_sem];refine ZJ (E:=5) (B:=h1.size) Xd U Tv Si Sh (o6.Yz b7 (Q _)) nT o7.bs (by simp only[am,QV];omega) ?_;intro v8 h8 o8 b8 _;have z8:=b8.size;have o8:Yx h1.size 5 h8 v8 (Ro Zh QJ):=o8;have B8:Zj h1.size h1 h8:=(((((b2.trans (b3.mono z2)).trans b4).trans (b5.mono nT)).trans b6).trans (b7.mono nT)).trans b8;have o1':=o1.Yz B8 (Q _);have hlb:=EX key 0 ZC;obtain⟨pb,cb,rfl,CA⟩:=o1'.open;rw[hlb]at CA o1' ⊢;have s32:=Nc o1'.bs (m:=32) nT cb;have c32:(32:Int)<=cb:=nT;have l32:((Jq key 0 ZC).take 32).length=32:=aac;have hd:=bH hw hs;simp -implicitDefEqProofs only[go_sem,c32];refine (bD T _ _ _ ((Jq key 0 ZC).take 32) (Ro Zh QJ) s32 o8.bs (show 32<=cb by omega) o8.cap).use ?_;rintro _ h9 ⟨⟨w9,rfl,o9⟩,b9⟩;have e9:=bI (data:=Ro Zh QJ) l32 nT;rw[e9,if_pos rfl]at o9;rw[e9];simp -implicitDefEqProofs only[go_sem];exact⟨o9.mono nT,(b1.trans (B8.mono z1)).trans (b9.mono nT)⟩
def J6(k n w m SN:Nat):Int:=if k≠32\/n≠12\/256<w\/SN<m then 1 else 0
theorem Ly{k n w m SN:Nat}(e:J6 k n w m SN=0):k=32/\n=12/\w<=256/\m<=SN:=by
 unfold J6 at e;split at e
 .cases e
 .omega
theorem IH{k n w m SN:Nat}(e:¬J6 k n w m SN=0):J6 k n w m SN=1:=by
 unfold J6 at e ⊢;split
 .rfl
 .rename_i h;rw[if_neg h]at e;exact (e rfl).elim
theorem Lz(h:Hp)(p q r s:Option Addr)(k n w m c1 c2 c3 c4 SN:Nat):
  Zd Z T 43 #[A p k c1,A q n c2,A r w c3,A s m c4,L D SN] h fun v' h'=>v'=L D (J6 k n w m SN)/\h'=h:=by
 refine Zd.XT [_,_,_,_,_] Tryz.func43 ?_;unfold J6;by_cases q0:k=32
 ·
  by_cases q1:n=12
  ·
   by_cases q2:w<=256
   ·
    by_cases q3:m<=SN
    ·
     have c0:(k:Int)=32\/¬(k:Int)=32:=nT;have c1:(n:Int)=12\/¬(n:Int)=12:=nT;have c2:256<(w:Int)\/¬256<(w:Int):=nT;have c3:(SN:Int)<(m:Int)\/¬(SN:Int)<(m:Int):=nT;rcases c0 with c0|c0<;>rcases c1 with c1|c1<;>rcases c2 with c2|c2<;>rcases c3 with c3|c3<;>first
      | (exfalso;omega)
      | (rw[if_neg nT];simp -implicitDefEqProofs only[go_sem,c0,c1,c2,c3])
      | (rw[if_pos nT];simp -implicitDefEqProofs only[go_sem,c0,c1,c2,c3])
    ·
     have c0:(k:Int)=32\/¬(k:Int)=32:=nT;have c1:(n:Int)=12\/¬(n:Int)=12:=nT;have c2:256<(w:Int)\/¬256<(w:Int):=nT;have c3:(SN:Int)<(m:Int)\/¬(SN:Int)<(m:Int):=nT;rcases c0 with c0|c0<;>rcases c1 with c1|c1<;>rcases c2 with c2|c2<;>rcases c3 with c3|c3<;>first
      | (exfalso;omega)
      | (rw[if_neg nT];simp -implicitDefEqProofs only[go_sem,c0,c1,c2,c3])
      | (rw[if_pos nT];simp -implicitDefEqProofs only[go_sem,c0,c1,c2,c3])
   ·
    have c0:(k:Int)=32\/¬(k:Int)=32:=nT;have c1:(n:Int)=12\/¬(n:Int)=12:=nT;have c2:256<(w:Int)\/¬256<(w:Int):=nT;have c3:(SN:Int)<(m:Int)\/¬(SN:Int)<(m:Int):=nT;rcases c0 with c0|c0<;>rcases c1 with c1|c1<;>rcases c2 with c2|c2<;>rcases c3 with c3|c3<;>first
     | (exfalso;omega)
     | (rw[if_neg nT];simp -implicitDefEqProofs only[go_sem,c0,c1,c2,c3])
     | (rw[if_pos nT];simp -implicitDefEqProofs only[go_sem,c0,c1,c2,c3])
  ·
   have c0:(k:Int)=32\/¬(k:Int)=32:=nT;have c1:(n:Int)=12\/¬(n:Int)=12:=nT;have c2:256<(w:Int)\/¬256<(w:Int):=nT;have c3:(SN:Int)<(m:Int)\/¬(SN:Int)<(m:Int):=nT;rcases c0 with c0|c0<;>rcases c1 with c1|c1<;>rcases c2 with c2|c2<;>rcases c3 with c3|c3<;>first
    | (exfalso;omega)
    | (rw[if_neg nT];simp -implicitDefEqProofs only[go_sem,c0,c1,c2,c3])
    | (rw[if_pos nT];simp -implicitDefEqProofs only[go_sem,c0,c1,c2,c3])
 ·
  have c0:(k:Int)=32\/¬(k:Int)=32:=nT;have c1:(n:Int)=12\/¬(n:Int)=12:=nT;have c2:256<(w:Int)\/¬256<(w:Int):=nT;have c3:(SN:Int)<(m:Int)\/¬(SN:Int)<(m:Int):=nT;rcases c0 with c0|c0<;>rcases c1 with c1|c1<;>rcases c2 with c2|c2<;>rcases c3 with c3|c3<;>first
   | (exfalso;omega)
   | (rw[if_neg nT];simp -implicitDefEqProofs only[go_sem,c0,c1,c2,c3])
   | (rw[if_pos nT];simp -implicitDefEqProofs only[go_sem,c0,c1,c2,c3])
def Rp(key ZC Zh plain:List Nat):List Nat:=Wm key 1 ZC plain++QB key ZC Zh (Wm key 1 ZC plain)
def my(B:Nat)(h':Hp)(v':ab)(key ZC Zh plain:List Nat):Prop:=∃w,v'=.tuple [w,L D (J6 (y key) (y ZC) (y Zh) (y plain) 2000)].toArray/\Yx B 5 h' w (if J6 (y key) (y ZC) (y Zh) (y plain) 2000=0 then Rp key ZC Zh plain else [])
theorem II{key ZC:List Nat}{k:Int}{n:Nat}(hk:(y key)=32)(hn:(y ZC)=12)(h0:0<=k)(h1:k<=1073741824)(hm:n<=2000):SG key k ZC n=0:=by
 unfold SG;rw[NU hk hn h0 h1,if_neg uK,if_neg nT]
theorem HX(key data:List Nat):(iU key data).length<=16:=by rw[Sq];exact Q _
theorem Zc3(h:Hp)(v u kn sv:ab)(key ZC Zh plain:List Nat)(sk:Bs h v key)(sn:Bs h u ZC)(sw:Bs h kn Zh)(ss:Bs h sv plain)(ck:PM v)(cn:PM u):
  Zd Z T 30 #[v,u,kn,sv] h fun v' h'=>my h.size h' v' key ZC Zh plain/\Zj h.size h h':=by
 obtain⟨p,c,rfl,_⟩:=sk.open;obtain⟨q,d,rfl,_⟩:=sn.open;obtain⟨pw,cw,rfl,_⟩:=sw.open;obtain⟨ps,cs,rfl,_⟩:=ss.open;refine Zd.XT [_,_,_,_] Tryz.func30 ?_;unfold my;simp -implicitDefEqProofs only[go_sem];refine (Lz T _ _ _ _ _ _ _ _ _ _ _ _ _ 2000).pure ?_;by_cases e:J6 (y key) (y ZC) (y Zh) (y plain) 2000=0
 .obtain⟨hk,hn,hw,hs⟩:=Ly e;rw[e,if_pos rfl];simp -implicitDefEqProofs only[go_sem,e];refine (xW T _ _ _ _ key ZC plain 1 sk sn ss ck cn).use ?_;rintro _ h1 ⟨⟨w1,rfl,o1⟩,b1⟩;have e1:=II (k:=1) hk hn Iw Iw hs;rw[e1,if_pos rfl]at o1;rw[e1];have o1:Yx h.size 5 h1 w1 (Wm key 1 ZC plain):=o1;have z1:=b1.size;have l1:=Ju key 1 ZC plain;simp -implicitDefEqProofs only[go_sem];refine (IG T _ _ _ _ _ key ZC Zh (Wm key 1 ZC plain) (sk.Yz b1) (sn.Yz b1) (sw.Yz b1) o1.bs hk hn hw nT ck cn).use ?_;rintro v2 h2 ⟨o2,b2⟩;have l2:(QB key ZC Zh (Wm key 1 ZC plain)).length<=16:=HX _ _;have z2:=b2.size;simp -implicitDefEqProofs only[go_sem];refine ZJ (E:=5) (B:=h.size) Xd U Tv Si Sh (o1.Yz b2 (Q _)) nT o2.bs nT ?_;intro v3 h3 o3 b3 _;simp -implicitDefEqProofs only[go_sem];exact⟨⟨_,rfl,o3⟩,(b1.trans (b2.mono z1)).trans b3⟩
 .have e1:=IH e;rw[if_neg e];simp -implicitDefEqProofs only[go_sem,e1];exact⟨_,rfl,Yx.nil _ _ _⟩
theorem DM(a:Option Addr)(c:Nat):iz a 1 c 0=a:=by
 unfold iz;split
 .rfl
 .cases a with
  | none=>rfl
  | some a=>simp[Addr.add]
def Ng(key ZC Zh data:List Nat):Int:=if J6 (y key) (y ZC) (y Zh) (y data) 2016≠0 then 1 else if (y data)<16 then 13 else if QB key ZC Zh (data.take ((y data)-16))≠data.drop ((y data)-16) then 6 else 0
def mz(key ZC data:List Nat):List Nat:=Wm key 1 ZC (data.take ((y data)-16))
def mA(B:Nat)(h':Hp)(v':ab)(key ZC Zh data:List Nat):Prop:=∃w,v'=.tuple [w,L D (Ng key ZC Zh data)].toArray/\Yx B 5 h' w (if Ng key ZC Zh data=0 then mz key ZC data else [])
theorem Zc4(h:Hp)(v u kn sv:ab)(key ZC Zh data:List Nat)(sk:Bs h v key)(sn:Bs h u ZC)(sw:Bs h kn Zh)(ss:Bs h sv data)(ck:PM v)(cn:PM u)(cs:PM sv):
  Zd Z T 102 #[v,u,kn,sv] h fun v' h'=>mA h.size h' v' key ZC Zh data/\Zj h.size h h':=by
 obtain⟨p,c,rfl,_⟩:=sk.open;obtain⟨q,d,rfl,_⟩:=sn.open;obtain⟨pw,cw,rfl,_⟩:=sw.open;obtain⟨ps,cd,rfl,_⟩:=ss.open;have cs:(y data)<=cd:=cs;refine Zd.XT [_,_,_,_] Tryz.func102 ?_;unfold mA;simp -implicitDefEqProofs only[go_sem];refine (Lz T _ _ _ _ _ _ _ _ _ _ _ _ _ 2016).pure ?_;have yD:Ng key ZC Zh data=if J6 (y key) (y ZC) (y Zh) (y data) 2016≠0 then 1 else if (y data)<16 then 13 else if QB key ZC Zh (data.take ((y data)-16))≠data.drop ((y data)-16) then 6 else 0:=rfl
 by_cases e:J6 (y key) (y ZC) (y Zh) (y data) 2016=0
 .obtain⟨hk,hn,hw,hs⟩:=Ly e;rw[if_neg (by simp[e])]at yD;by_cases h16:(y data)<16
  .rw[if_pos h16]at yD;rw[yD];have n0:((y data):Int)-16<0:=nT;simp -implicitDefEqProofs only[go_sem,e,n0];exact⟨_,rfl,Yx.nil _ _ _⟩
  .rw[if_neg h16]at yD;have n0:¬(((y data)-16:Nat):Int)<0:=nT;have n1:((y data):Int)-16=(((y data)-16:Nat):Int):=nT;have sfr:=Nc ss (m:=(y data)-16) nT cd;have sbk:=O0 ss rfl (k:=(y data)-16) nT cs (cd-((y data)-16));have lfr:(data.take ((y data)-16)).length=(y data)-16:=aac;have ZlU:(((y data)-16:Nat):Int)<=cd:=nT;have ZtP:(((y data)-16:Nat):Int)<=(y data):=nT;simp -implicitDefEqProofs only[go_sem,e,n1,n0];refine VS.w (h.size) [] (.q 0 (.q 1 (.q 2 (.q 3 (.q 4 (.q 5 (.q 7 (.q 8 (.q 9 (.s 6 (.s 10 (.q 11 .nil)))))))))))) mixed uj ?_;simp -implicitDefEqProofs only[go_sem,ZlU,ZtP,W,WO,DM];refine (IG T _ _ _ _ _ key ZC Zh (data.take ((y data)-16)) sk sn sw sfr hk hn hw nT ck cn).use ?_;rintro v1 h1 ⟨o1,b1⟩;have l1:(QB key ZC Zh (data.take ((y data)-16))).length<=16:=HX _ _;simp -implicitDefEqProofs only[go_sem,b1];refine (Bd T _ _ _ _ _ o1.bs (sbk.Yz b1) nT).pure ?_;obtain⟨S,hS⟩:=ZN (QB key ZC Zh (data.take ((y data)-16)));rw[<-hS]at yD ⊢;by_cases ht:S=data.drop ((y data)-16)
   .rw[if_neg (by simp[ht])]at yD;rw[yD,if_pos rfl];have uq:decide (S=data.drop ((y data)-16))=true:=decide_eq_true ht;simp -implicitDefEqProofs only[go_sem,b1,uq,ZlU,WO,DM];refine (xW T _ _ _ _ key ZC (data.take ((y data)-16)) 1 (sk.Yz b1) (sn.Yz b1) (sfr.Yz b1) ck cn).use ?_;rintro _ h2 ⟨⟨w2,rfl,o2⟩,b2⟩;have e2:=II (k:=1) hk hn Iw Iw (show (data.take ((y data)-16)).length<=2000 by omega);rw[e2,if_pos rfl]at o2;rw[e2];have o2:Yx h1.size 5 h2 w2 (mz key ZC data):=o2;simp -implicitDefEqProofs only[go_sem];exact⟨⟨_,rfl,o2.mono b1.size⟩,b1.trans (b2.mono b1.size)⟩
   .rw[if_pos ht]at yD;rw[yD];have uq:decide (S=data.drop ((y data)-16))=false:=decide_eq_false ht;simp -implicitDefEqProofs only[go_sem,b1,uq];exact⟨_,rfl,Yx.nil _ _ _⟩
 .have e1:=IH e;rw[if_pos e]at yD;rw[yD];simp -implicitDefEqProofs only[go_sem,e1];exact⟨_,rfl,Yx.nil _ _ _⟩
def YH(n:Nat):List Nat:=[n/16777216%256,n/65536%256,n/256%256,n%256]
theorem je(n:Nat):∀x∈YH n,x<256:=by
 intro x hx;simp only[YH,List.mem_cons,List.not_mem_nil,or_false]at hx;omega
theorem Fh(n k:Nat)(hk:k<=64):XA D (n:Int) (k:Int)=((n/2 ^ k:Nat):Int):=by
 rw[OX D n k hk,ao]
theorem bJ(h:Hp)(n:Nat)(hn:n<=1073741824):
  Zd Z T 29 #[L D n] h fun v' h'=>Yx h.size 5 h' v' (YH n)/\Zj h.size h h':=by
 refine Zd.XT [_] Tryz.func29 ?_;have e1:XA D (n:Int) 24%256=((n/16777216%256:Nat):Int):=by rw[show (24:Int)=((24:Nat):Int) from rfl,Fh n 24 nT];omega
 have e2:XA D (n:Int) 16%256=((n/65536%256:Nat):Int):=by rw[show (16:Int)=((16:Nat):Int) from rfl,Fh n 16 nT];omega
 have e3:XA D (n:Int) 8%256=((n/256%256:Nat):Int):=by rw[show (8:Int)=((8:Nat):Int) from rfl,Fh n 8 nT];omega
 have e4:(n:Int)%256=((n%256:Nat):Int):=nT;simp -implicitDefEqProofs only[go_sem,e1,e2,e3,e4];exact Yx.made (l:=YH n) (je n) (Q _)
def XM(l:List Nat):List Nat:=ae 8 0++l
theorem Zg9:(Qg 12 [Value.int .u8 0])=(ae 12 0).map bv:=rfl
theorem LA(h:Hp)(v:ab)(l:List Nat)(s:Bs h v l)(hl:(y l)<=1000):
  Zd Z T 31 #[v] h fun v' h'=>Yx h.size 5 h' v' (XM l)/\Zj h.size h h':=by
 refine Zd.XT [_] Tryz.func31 ?_;simp -implicitDefEqProofs only[go_sem,Zg9];have o1:Yx h.size 5 (h.push (K ((ae 12 0).map bv).toArray 5)) (A (M ⟨h.size,0,R⟩) 8 12) (ae 8 0):=by
  refine⟨.inr ⟨h.size,12,(ae 4 0).map bv,Q _,rfl,?_,uK,uK,uK⟩,fun x hx=>by rw[List.eq_of_mem_replicate hx];decide⟩;rw[Zc,<-List.map_append];rfl
 refine ZJ (E:=5) (B:=h.size) Xd U Tv Si Sh o1 uK (s.Yz (Zj.push (Q _) _)) Ig ?_;intro v' h' Me J9 _;simp -implicitDefEqProofs only[go_sem];exact⟨Me,(Zj.push (Q _) _).trans J9⟩
def Ss(n:Nat)(ZZ Z1:Int)(s:List Bool)(m:Nat):Int:=if Ja n ZZ Z1 s≠0 then 5 else if 2000<m then 1 else if ZZ=1073741824 then 8 else 0
def JP:List Bool:=[false,false,false,false,false,false,false,false]
def TB(kl:List Nat)(n:Nat)(plain:List Nat):List Nat:=YH n++Rp kl (XM (YH n)) (YH n) plain
def mB(B:Nat)(h':Hp)(cw:ab)(e:Int)(kl:List Nat)(ZZ Z1:Int)(s:List Bool):Prop:=Bf B h' cw (if e=0 then kl else []) (if e=0 then ZZ else 0) (if e=0 then Z1 else 0) (if e=0 then s else JP)
def BE(B:Nat)(h':Hp)(v':ab)(kl:List Nat)(ZZ Z1:Int)(s:List Bool)(plain:List Nat):Prop:=∃cw w,v'=.tuple [cw,w,L D (Ss (y kl) ZZ Z1 s (y plain))].toArray /\
 mB B h' cw (Ss (y kl) ZZ Z1 s (y plain)) kl (ZZ+1) Z1 s/\Yx B 5 h' w (if Ss (y kl) ZZ Z1 s (y plain)=0 then TB kl ZZ.toNat plain else [])
theorem LB(n:Nat)(ZZ Z1:Int)(s:List Bool):Ja n ZZ Z1 s=0\/Ja n ZZ Z1 s=5:=by
 unfold Ja
 repeat' split
 all_goals simp
theorem LC{n:Nat}{ZZ Z1:Int}{s:List Bool}(e:Ja n ZZ Z1 s=0):n=32/\0<=ZZ/\ZZ<=1073741824/\0<=Z1/\Z1<=1073741824:=by
 unfold Ja at e;split at e
 .cases e
 .omega
theorem wrZ{G:Hp}{b:Nat}(hx:G[b]? = M (K Vn.toArray 65)){w:List ab}(h11:(y w)=11)(h1:w.all YD=true):wr G ⟨b,0,R⟩ w=M (G.setIfInBounds b (K w.toArray 65)):=by
 rw[Yd hx 0 w,Z4 (by rw[h11];rfl),if_pos ⟨by rw[h11];exact Q _,h1⟩]
set_option maxHeartbeats 1000000 in
theorem bK(h:Hp)(k u:ab)(kl plain:List Nat)(ZZ Z1:Int)(s:List Bool)(hs:(y s)=8)(sk:Bs h k kl)(sp:Bs h u plain)(ck:PM k):
  Zd Z T 16 #[.agg (Yb k ZZ Z1 s).toArray,u] h fun v' h'=>BE h.size h' v' kl ZZ Z1 s plain/\Zj h.size h h':=by
 obtain⟨p,c,rfl,_⟩:=sk.open;obtain⟨q,d,rfl,_⟩:=sp.open;have TV:=YO (A p (y kl) c) ZZ Z1 s hs;have tk:=XB TV;refine Zd.Ld [_,_] Tryz.func16 ?_;simp -implicitDefEqProofs only[go_sem,TV,tk];have Rk:Zj h.size h ((h.push (K (Yb (A p (y kl) c) ZZ Z1 s).toArray 65)).push (K Vn.toArray 65)):=by (repeat' (first|exact Zj.refl _ _|assumption|refine Zj.add ?_ _|refine Zj.Zs ?_ (by first|omega|(simp;omega)) _|refine Zj.trans (by assumption) ?_))
 refine (Lj T _ p (y kl) c ZZ Z1 s hs).use ?_;rintro _ g1 ⟨rfl,b1⟩;have x0:g1[h.size]? = M (K (Yb (A p (y kl) c) ZZ Z1 s).toArray 65):=b1.get (by simp only[O];omega) (by simp only[Y,O,aa,↓reduceIte]);have x1:g1[h.size+1]? = M (K Vn.toArray 65):=b1.get (by simp only[O];omega) (by simp only[Y,O,aa,↓reduceIte];rfl);have Wf:Zj h.size h g1:=Rk.trans (b1.mono (by simp;omega));have z1:=Za x1;clear b1 Rk;have PD:Ss (y kl) ZZ Z1 s (y plain)=if Ja (y kl) ZZ Z1 s≠0 then 5 else if 2000<(y plain) then 1 else if ZZ=1073741824 then 8 else 0:=rfl
 unfold BE mB;obtain⟨E,hE⟩:=ZN (Ss (y kl) ZZ Z1 s (y plain));rw[<-hE]at PD ⊢;have wz:=wrZ x1 (w:=[A R 0 0,L D 0,L D 0,H false,H false,H false,H false,H false,H false,H false,H false]) rfl rfl;have hBz:Zj h.size h (g1.setIfInBounds (h.size+1) (K #[A R 0 0,L D 0,L D 0,H false,H false,H false,H false,H false,H false,H false,H false] 65)):=Wf.Zs (by omega) _;by_cases e0:Ja (y kl) ZZ Z1 s=0
 .obtain⟨hk,s0,s1,t0,t1⟩:=LC e0;rw[if_neg (by simp[e0])]at PD;by_cases hm:2000<(y plain)
  .rw[if_pos hm]at PD;have HE:2000<((y plain):Int):=by omega
   simp -implicitDefEqProofs only[go_sem,e0,HE,wz,z1];exact⟨⟨_,_,by rw[PD];rfl,⟨_,rfl,Yx.nil _ _ _⟩,Yx.nil _ _ _⟩,hBz⟩
  .rw[if_neg hm]at PD;have HE:¬2000<((y plain):Int):=by omega
   have y1:V.hc g1 ⟨h.size,1,R⟩=M (L D ZZ):=by rw[Zl x0];rfl
   have y0:V.hc g1 ⟨h.size,0,R⟩=M (A p (y kl) c):=by rw[Zl x0];rfl
   by_cases hf:ZZ=1073741824
   .rw[if_pos hf]at PD;have hf':(ZZ=1073741824)=True:=eq_true hf;simp -implicitDefEqProofs only[go_sem,e0,HE,y1,hf',wz,z1];exact⟨⟨_,_,by rw[PD];rfl,⟨_,rfl,Yx.nil _ _ _⟩,Yx.nil _ _ _⟩,hBz⟩
   .rw[if_neg hf]at PD;rw[PD];obtain⟨n,rfl⟩:∃n:Nat,ZZ=n:=⟨ZZ.toNat,by omega⟩
    rw[W];simp -implicitDefEqProofs only[go_sem,e0,HE,y1,hf];refine (bJ T _ n (by omega)).use ?_;rintro vh g2 ⟨oh,b2⟩;have z2:=b2.size;have x0':=b2.get (by omega) x0;have x1':=b2.get (by omega) x1;have y0':V.hc g2 ⟨h.size,0,R⟩=M (A p (y kl) c):=by rw[Zl x0'];rfl
    have SA:=Wf.trans (b2.mono Wf.size);have Hl:h.size<g2.size:=by omega
    simp -implicitDefEqProofs only[go_sem];refine VS.w (g2.size) [] (.q 0 (.q 1 (.q 2 (.q 4 (.q 5 (.s 3 (.s 6 (.q 7 (.q 8 (.q 9 (.q 10 (.q 11 .nil)))))))))))) mixed (by kernel_rfl) ?_;simp -implicitDefEqProofs only[go_sem,y0',Hl];refine (LA T _ _ _ oh.bs (by simp[YH])).use ?_;rintro vn g3 ⟨on,b3⟩;have z3:=b3.size;have b3T:Zj g2.size g2 g3=True:=eq_true b3;simp -implicitDefEqProofs only[go_sem,b3T];refine (Zc3 T _ _ _ _ _ kl (XM (YH n)) (YH n) plain ((sk.Yz SA).Yz b3) on.bs (oh.bs.Yz b3) ((sp.Yz SA).Yz b3) ck on.cap).use ?_;rintro _ g4 ⟨⟨w4,rfl,o4⟩,b4⟩;have z4:=b4.size;have eS:J6 (y kl) (XM (YH n)).length (YH n).length (y plain) 2000=0:=by
     unfold J6 XM YH;rw[if_neg];simp;omega
    rw[eS,if_pos rfl]at o4;rw[eS];have fE:Zj g2.size g2 g4:=b3.trans (b4.mono z3);have yE:Zj g2.size g2 g4=True:=eq_true fE;have ZtQ:=fE.get (by omega) x0';have ZtR:=fE.get (by omega) x1';have EU:=SA.trans (fE.mono SA.size);have rC:rd g4 ⟨h.size,0,R⟩ 11=M (Yb (A p (y kl) c) n Z1 s):=Zz ZtQ TV;simp -implicitDefEqProofs only[go_sem,yE,rC];refine (xr T _ _ kl n Z1 s hs (sk.Yz EU) (by omega)).use ?_;rintro _ g5 ⟨⟨w5,rfl,o5⟩,b5⟩;have z5:=b5.size;obtain⟨pw,cw,rfl,_⟩:=o5.open;have ZlW:=b5.get (by omega) ZtR;have Ho:=YO (A pw (y kl) cw) n Z1 s hs;have qj:=XB Ho;have oD:=UY (p:=pw) (n:=(y kl)) (c:=cw) n Z1 s;have lpD:∀v,Y8 [v,L D 0,L D 0,H false,H false,H false,H false,H false,H false,H false,H false] 0 (Yb (A pw (y kl) cw) n Z1 s)=Yb (A pw (y kl) cw) n Z1 s:=fun v=>Z4 Ho;have nD:nth (Yb (A pw (y kl) cw) n Z1 s) 1=M (L D n):=rfl;have e1:(n:Int)+1=((n+1:Nat):Int):=rfl;have sD:(Yb (A pw (y kl) cw) n Z1 s).set 1 (L D ((n+1:Nat):Int))=Yb (A pw (y kl) cw) ((n+1:Nat):Int) Z1 s:=rfl;have DN:=YO (A pw (y kl) cw) ((n+1:Nat):Int) Z1 s hs;have ZlX:=XB DN;have oD':=UY (p:=pw) (n:=(y kl)) (c:=cw) ((n+1:Nat):Int) Z1 s;simp -implicitDefEqProofs only[go_sem,Ho,qj,oD,lpD,nD,e1,sD];have rJ:rd (g5.push (K (Yb (A pw (y kl) cw) ((n+1:Nat):Int) Z1 s).toArray 65)) ⟨g5.size,0,R⟩ 11=M (Yb (A pw (y kl) cw) ((n+1:Nat):Int) Z1 s):=Zz Zc DN;have xJ:(g5.push (K (Yb (A pw (y kl) cw) ((n+1:Nat):Int) Z1 s).toArray 65))[g5.size]? = M (K (Yb (A pw (y kl) cw) ((n+1:Nat):Int) Z1 s).toArray 65):=Zc;have xZ:(g5.push (K (Yb (A pw (y kl) cw) ((n+1:Nat):Int) Z1 s).toArray 65))[h.size+1]? = M (K Vn.toArray 65):=by rw[ZI (by omega)];exact ZlW
    have hB5:=EU.trans (b5.mono EU.size);have hBJ:Zj h.size h (g5.push (K (Yb (A pw (y kl) cw) ((n+1:Nat):Int) Z1 s).toArray 65)):=hB5.YU hB5.size _;have ohJ:=(oh.Yz (fE.trans (b5.mono (by omega))) (Q _)).push (K (Yb (A pw (y kl) cw) ((n+1:Nat):Int) Z1 s).toArray 65);have owJ:=o5.push (K (Yb (A pw (y kl) cw) ((n+1:Nat):Int) Z1 s).toArray 65);have o4J:=(o4.Yz b5 (Q _)).push (K (Yb (A pw (y kl) cw) ((n+1:Nat):Int) Z1 s).toArray 65);have zJ:(g5.push (K (Yb (A pw (y kl) cw) ((n+1:Nat):Int) Z1 s).toArray 65)).size=g5.size+1:=by simp
    have ZS:=oh.Zm.lt;have wG:=oh.Zm.ZW;have ZlY:=o5.Zm.ZW;have ZFv:=o5.Zm.lt;have lS:(Rp kl (XM (YH n)) (YH n) plain).length<=2016:=by
     have l1:=Ju kl 1 (XM (YH n)) plain;have l2:(QB kl (XM (YH n)) (YH n) (Wm kl 1 (XM (YH n)) plain)).length<=16:=HX _ _;unfold Rp;rw[am];omega
    have lh:(YH n).length=4:=rfl;obtain⟨J,hJ⟩:=ZN (g5.push (K (Yb (A pw (y kl) cw) ((n+1:Nat):Int) Z1 s).toArray 65));rw[<-hJ]at rJ xJ xZ hBJ ohJ owJ o4J zJ ⊢;clear hJ;have key:∀v' h',Yx g1.size 5 h' v' (YH n++Rp kl (XM (YH n)) (YH n) plain)->Zj g1.size J h'->RM (Yf vh) J h' ->
      rd h' ⟨g5.size,0,R⟩ 11=M (Yb (A pw (y kl) cw) ((n+1:Nat):Int) Z1 s)/\wr h' ⟨h.size+1,0,R⟩ (Yb (A pw (y kl) cw) ((n+1:Nat):Int) Z1 s)=M (h'.setIfInBounds (h.size+1) (K (Yb (A pw (y kl) cw) ((n+1:Nat):Int) Z1 s).toArray 65)) /\
      (Zj (h.size+1) J h'=True)/\(Zj (h.size+1) J (h'.setIfInBounds (h.size+1) (K (Yb (A pw (y kl) cw) ((n+1:Nat):Int) Z1 s).toArray 65))=True)/\h.size+1<h'.size /\
      Yx h.size 5 (h'.setIfInBounds (h.size+1) (K (Yb (A pw (y kl) cw) ((n+1:Nat):Int) Z1 s).toArray 65)) (A pw (y kl) cw) kl /\
      Yx h.size 5 (h'.setIfInBounds (h.size+1) (K (Yb (A pw (y kl) cw) ((n+1:Nat):Int) Z1 s).toArray 65)) v' (TB kl n plain) /\
      Zj h.size h (h'.setIfInBounds (h.size+1) (K (Yb (A pw (y kl) cw) ((n+1:Nat):Int) Z1 s).toArray 65)):=by
     intro v' h' Me J9 Mf;have xZ':=J9.get (k:=h.size+1) (by omega) xZ;have xJ':h'[g5.size]? = M (K (Yb (A pw (y kl) cw) ((n+1:Nat):Int) Z1 s).toArray 65):=by
      rw[Mf.block g5.size (by omega) (fun e=>by have:=ZS _ e;omega)];exact xJ
     have ow':=owJ.lI Mf (fun b hb e=>by have:=ZlY b hb;have:=ZS _ e;omega);have CU:Zj (h.size+1) J h':=J9.mono (by omega);exact⟨Zz xJ' DN,wrZ xZ' DN oD',eq_true CU,eq_true (CU.Zs (Q _) _),Za xZ',(ow'.Z9 (by omega) _).mono (by omega),(Me.Z9 (by omega) _).mono (by omega),(hBJ.trans (J9.mono (by omega))).Zs (by omega) _⟩
    refine VS.w (h.size+1) [] (.q 1 (.q 2 (.or 0 (.s 3 (.s 4 (.q 5 (.q 6 .nil)))) (.s 3 (.s 0 (.s 4 (.q 5 (.q 6 .nil)))))))) mixed (by kernel_rfl) ?_;simp -implicitDefEqProofs only[go_sem,rJ];refine⟨?_,?_⟩
    .refine ZJ (E:=5) (B:=g1.size) Xd U Tv Si Sh ohJ (by omega) o4J.bs (by omega) ?_;intro v' h' Me J9 Mf;obtain⟨k1,k2,k3,k4,k5,k6,k7,k8⟩:=key v' h' Me J9 Mf;simp -implicitDefEqProofs only[go_sem,k1,k2,k3,k4,k5,DN,ZlX];exact⟨⟨_,_,rfl,⟨_,rfl,k6⟩,k7⟩,k8⟩
    .refine ZJ (E:=5) (B:=g1.size) Xd U Tv Si Sh ohJ (by omega) o4J.bs (by omega) ?_;intro v' h' Me J9 Mf;obtain⟨k1,k2,k3,k4,k5,k6,k7,k8⟩:=key v' h' Me J9 Mf;simp -implicitDefEqProofs only[go_sem,k1,k2,k3,k4,k5,DN,ZlX];exact⟨⟨_,_,rfl,⟨_,rfl,k6⟩,k7⟩,k8⟩
 .rw[if_pos e0]at PD;have e5:=(LB (y kl) ZZ Z1 s).resolve_left e0;simp -implicitDefEqProofs only[go_sem,e5,wz,z1];exact⟨⟨_,_,by rw[PD];rfl,⟨_,rfl,Yx.nil _ _ _⟩,Yx.nil _ _ _⟩,hBz⟩
def EY(Z1:Int)(s:List Bool)(n:Nat):Bool:=decide ((n:Int)<Z1-8)||(decide ((n:Int)<Z1)&&s.getD ((n:Int)-(Z1-8)).toNat false)
theorem Zha(h:Hp)(k:ab)(ZZ Z1:Int)(s:List Bool)(n:Nat)(hs:(y s)=8)(t0:0<=Z1)(t1:Z1<=1073741824)(hn:n<1073741824):
  Zd Z T 101 #[.agg (Yb k ZZ Z1 s).toArray,L D n] h fun v' h'=>v'=H (EY Z1 s n)/\Zj h.size h h':=by
 have TV:=YO k ZZ Z1 s hs;have tk:=XB TV;have n2:nth (Yb k ZZ Z1 s) 2=M (L D Z1):=rfl;refine Zd.XT [_,_] Tryz.func101 ?_;unfold EY;by_cases q1:(n:Int)<Z1-8
 .have d1:decide ((n:Int)<Z1-8)=true:=decide_eq_true q1;simp -implicitDefEqProofs only[go_sem,TV,tk,n2,q1,d1,Bool.true_or]
 .have d1:decide ((n:Int)<Z1-8)=false:=decide_eq_false q1;by_cases q2:(n:Int)<Z1
  .have d2:decide ((n:Int)<Z1)=true:=decide_eq_true q2;obtain⟨i,hi⟩:∃i:Nat,(n:Int)-(Z1-8)=i:=⟨((n:Int)-(Z1-8)).toNat,nT⟩
   have hi8:i<8:=nT;have ZtV:(i:Int)<8:=nT;have n3:nth (Yb k ZZ Z1 s) (3+i)=M (H (s.getD i false)):=by
    have:=OY s i nT;rw[YW]at this ⊢;rw[<-this];show (k :: L D ZZ :: L D Z1 :: s.map Value.bool)[3+i]? = _;rw[Nat.add_comm];rfl
   simp -implicitDefEqProofs only[go_sem,TV,tk,n2,q1,q2,d1,d2,hi,ZtV,W,n3,aq]
  .have d2:decide ((n:Int)<Z1)=false:=decide_eq_false q2;simp -implicitDefEqProofs only[go_sem,TV,tk,n2,q1,q2,d1,d2,aq]
theorem jf(k:ab)(ZZ Z1:Int)(s t:List Bool)(hs:(y s)=8)(ht:(y t)=8):Y8 (Yb k ZZ Z1 s) 3 (t.map Value.bool)=Yb k ZZ Z1 t:=by
 have:=Tn [k,L D ZZ,L D Z1] (s.map Value.bool) (t.map Value.bool);rw[Z4 (by simp[hs,ht])]at this;exact this
set_option maxHeartbeats 1000000 in
theorem Zc5(h:Hp)(k:ab)(kl:List Nat)(ZZ Z1:Int)(s:List Bool)(n:Nat)(hs:(y s)=8)(sk:Bs h k kl)(hk:(y kl)<=140737488355328)(t0:0<=Z1)(t1:Z1<=1073741824)(hn:n<1073741824)(hm:¬(n:Int)<Z1-8):
  Zd Z T 103 #[.agg (Yb k ZZ Z1 s).toArray,L D n] h fun v' h'=>Bf h.size h' v' kl ZZ (max Z1 (n+1)) (Jy (RT Z1 s 8++[(n:Int)]) (max Z1 (n+1)))/\Zj h.size h h':=by
 obtain⟨p,c,rfl,_⟩:=sk.open;have TV:=YO (A p (y kl) c) ZZ Z1 s hs;have tk:=XB TV;refine Zd.Ld [_,_] Tryz.func103 ?_;simp -implicitDefEqProofs only[go_sem,TV,tk];have Rk:Zj h.size h ((h.push (K (Yb (A p (y kl) c) ZZ Z1 s).toArray 65)).push (K Vn.toArray 65)):=by (repeat' (first|exact Zj.refl _ _|assumption|refine Zj.add ?_ _|refine Zj.Zs ?_ (by first|omega|(simp;omega)) _|refine Zj.trans (by assumption) ?_))
 refine (xr T _ _ kl ZZ Z1 s hs (sk.Yz Rk) hk).use ?_;rintro _ g1 ⟨⟨w,rfl,o1⟩,b1⟩;have x0:g1[h.size]? = M (K (Yb (A p (y kl) c) ZZ Z1 s).toArray 65):=b1.get (by simp only[O];omega) (by simp only[Y,O,aa,↓reduceIte]);have x1:g1[h.size+1]? = M (K Vn.toArray 65):=b1.get (by simp only[O];omega) (by simp only[Y,O,aa,↓reduceIte]<;>rfl);have Wf:Zj h.size h g1:=Rk.trans (b1.mono (by simp;omega));have z1:=Za x1;simp only[O]at o1;obtain⟨pw,cw,rfl,_⟩:=o1.open;clear b1 Rk;have y2:V.hc g1 ⟨h.size,2,R⟩=M (L D Z1):=by rw[Zl x0];rfl
 have Ho:=YO (A pw (y kl) cw) ZZ Z1 s hs;have qj:=XB Ho;have oD:=UY (p:=pw) (n:=(y kl)) (c:=cw) ZZ Z1 s;have lpD:∀v,Y8 [v,L D 0,L D 0,H false,H false,H false,H false,H false,H false,H false,H false] 0 (Yb (A pw (y kl) cw) ZZ Z1 s)=Yb (A pw (y kl) cw) ZZ Z1 s:=fun v=>Z4 Ho;have e1:(n:Int)+1=((n+1:Nat):Int):=rfl;obtain⟨TP,hTP⟩:∃TP:Int,TP=max Z1 (n+1):=⟨_,rfl⟩
 have wM:(if ((n+1:Nat):Int)>Z1 then ((n+1:Nat):Int) else Z1)=TP:=by rw[hTP];split<;>omega
 have sD:(Yb (A pw (y kl) cw) ZZ Z1 s).set 2 (L D TP)=Yb (A pw (y kl) cw) ZZ TP s:=rfl;have ZtW:=YO (A pw (y kl) cw) ZZ TP s hs;have lE:Y8 (Yb (A pw (y kl) cw) ZZ TP s) 3 [H false,H false,H false,H false,H false,H false,H false,H false]=Yb (A pw (y kl) cw) ZZ TP (Jy (RT Z1 s 0) TP):=jf (A pw (y kl) cw) ZZ TP s JP hs rfl;have y0r:rd g1 ⟨h.size,3,R⟩ 8=M (s.map Value.bool):=by
  have P9:(s.map Value.bool).length=8:=by rw[List.length_map,hs]
  have:=YJ x0 (o:=3) (n:=8) (by rw[TV];omega);rw[this];have e:(Yb (A p (y kl) c) ZZ Z1 s).drop 3=s.map Value.bool:=rfl;rw[e,XB P9]
 rw[<-hTP];simp -implicitDefEqProofs only[go_sem,Ho,qj,oD,lpD,y2,e1,wM,sD,ZtW,lE,y0r];obtain⟨bo,hbo⟩:∃b,b=g1.size:=⟨_,rfl⟩
 obtain⟨J,hJ⟩:=ZN (g1.push (K (Yb (A pw (y kl) cw) ZZ TP (Jy (RT Z1 s 0) TP)).toArray 65));have J5:J[bo]? = M (K (Yb (A pw (y kl) cw) ZZ TP (Jy (RT Z1 s 0) TP)).toArray 65):=by rw[hJ,hbo];exact Zc
 have J0:J[h.size]? = M (K (Yb (A p (y kl) c) ZZ Z1 s).toArray 65):=by rw[hJ,ZI (by omega)];exact x0
 have J1:J[h.size+1]? = M (K Vn.toArray 65):=by rw[hJ,ZI (by omega)];exact x1
 have JB:Zj h.size h J:=by rw[hJ];exact Wf.YU Wf.size _
 have Jo:Yx (h.size+1+1) 5 J (A pw (y kl) cw) kl:=by rw[hJ];exact o1.push _
 have Jlt:∀b,Yf (A pw (y kl) cw)=M b->b<bo:=fun b hb=>by have:=o1.Zm.lt b hb;omega
 have Jsz:J.size=bo+1:=by rw[hJ,O,hbo]
 rw[<-hJ,<-hbo];clear hJ;refine VS.Yk (fun F g=>F 1=L D n/\F 2=al (M ⟨h.size,0,R⟩)/\F 4=al (M ⟨h.size+1,0,R⟩)/\F 5=al (M ⟨bo,0,R⟩)/\F 20=.agg (s.map Value.bool).toArray/\∃i:Nat,i<=8/\F 21=L D i/\g=J.setIfInBounds bo (K (Yb (A pw (y kl) cw) ZZ TP (Jy (RT Z1 s i) TP)).toArray 65))
  (fun F _=>8-(vi (F 21)).toNat) rfl ⟨rfl,rfl,rfl,rfl,rfl,0,by omega,rfl,(Vo J5).symm⟩ ?_
 rintro F g ⟨f1,f2,f4,f5,f20,i,hi,f21,rfl⟩;have hx:=Yc (o:=K (Yb (A pw (y kl) cw) ZZ TP (Jy (RT Z1 s i) TP)).toArray 65) J5;have O3:(J.setIfInBounds bo (K (Yb (A pw (y kl) cw) ZZ TP (Jy (RT Z1 s i) TP)).toArray 65))[h.size]? = M (K (Yb (A p (y kl) c) ZZ Z1 s).toArray 65):=by rw[X,if_neg (by omega)];exact J0
 have sl8:=SD (RT Z1 s i) TP;have XE:=pM Z1 s i;obtain⟨SS,hSS⟩:=ZN (Jy (RT Z1 s i) TP);by_cases ZS:i<8
 .have Z7:(i:Int)<8:=by omega
  rw[<-hSS]at hx O3 sl8 ⊢;obtain⟨G,hG⟩:=ZN (J.setIfInBounds bo (K (Yb (A pw (y kl) cw) ZZ TP SS).toArray 65));rw[<-hG]at hx O3 ⊢;have n1:=OY s i (by omega);have y2:V.hc G ⟨h.size,2,R⟩=M (L D Z1):=by rw[Zl O3];rfl
  have y5:V.hc G ⟨bo,2,R⟩=M (L D TP):=by rw[Zl hx];rfl
  obtain⟨b,hb⟩:=ZN (s.getD i false);rw[<-hb]at n1 XE
  cases b with
  | false=>
   rw[if_neg (by decide),List.append_nil]at XE;simp -implicitDefEqProofs only[go_sem,f1,f2,f4,f5,f20,f21,Z7,W,n1,y2,y5];refine⟨⟨f1,f2,f4,f5,f20,i+1,ZS,rfl,?_⟩,?_⟩
   .rw[XE,hG,hSS]
   .simp only[vi,Zq,↓reduceIte,f21];omega
  | true=>
   rw[if_pos rfl]at XE;have iX:=Iy (RT Z1 s i) TP (Z1-8+(i:Int)) (by omega);rw[<-XE,<-hSS]at iX;have ex:Z1-8+(i:Int)-TP+8=Z1+(i:Int)-TP:=by omega
   rw[ex]at iX;by_cases hk0:0<=Z1+(i:Int)-TP
   .rw[if_pos hk0]at iX;obtain⟨j,hj⟩:∃j:Nat,Z1+(i:Int)-TP=j:=⟨(Z1+(i:Int)-TP).toNat,by omega⟩
    rw[hj,W]at iX;have hj8:(j:Int)<8:=by omega
    have hj0:(0:Int)<=(j:Int):=by omega
    have ZFA:j<8:=by omega
    have hlen:=YO (A pw (y kl) cw) ZZ TP SS sl8;have w1:QQ G ⟨bo,3+j,R⟩ (H true)=M (G.setIfInBounds bo (K (Yb (A pw (y kl) cw) ZZ TP (SS.set j true)).toArray 65)):=by
     rw[Xh hx,if_pos ⟨by rw[hlen];omega,rfl⟩,aD]
    simp -implicitDefEqProofs only[go_sem,f1,f2,f4,f5,f20,f21,Z7,W,n1,y2,y5,hj,hj0,hj8,w1];refine⟨⟨f1,f2,f4,f5,f20,i+1,ZS,rfl,?_⟩,?_⟩
    .rw[iX,hG,set_set]
    .simp only[vi,Zq,↓reduceIte,f21];omega
   .rw[if_neg hk0]at iX;simp -implicitDefEqProofs only[go_sem,f1,f2,f4,f5,f20,f21,Z7,W,n1,y2,y5,hk0];refine⟨⟨f1,f2,f4,f5,f20,i+1,ZS,rfl,?_⟩,?_⟩
    .rw[iX,hG]
    .simp only[vi,Zq,↓reduceIte,f21];omega
 .have Xv:¬(i:Int)<8:=by omega
  obtain rfl:i=8:=by omega
  have c8:((8:Nat):Int)=8:=rfl;rw[c8]at f21 Xv;have iX:=Iy (RT Z1 s 8) TP (n:Int) (by omega);rw[if_pos (by omega),<-hSS]at iX;have Wi:(J.setIfInBounds bo (K (Yb (A pw (y kl) cw) ZZ TP (Jy (RT Z1 s 8) TP)).toArray 65))[h.size+1]? = M (K Vn.toArray 65):=by rw[X,if_neg (by omega)];exact J1
  have HB:=JB.Zs (b:=bo) (by omega) (K (Yb (A pw (y kl) cw) ZZ TP (Jy (RT Z1 s 8) TP)).toArray 65);have HO:Yx (h.size+1+1) 5 (J.setIfInBounds bo (K (Yb (A pw (y kl) cw) ZZ TP (Jy (RT Z1 s 8) TP)).toArray 65)) (A pw (y kl) cw) kl:=
   Jo.lI (x:=M bo) ⟨by simp,fun b hb Y4=>by rw[X,if_neg (fun e=>Y4 (by rw[e]))]⟩ (fun b hb e=>by have:=Jlt b hb;simp at e;omega)
  rw[<-hSS]at hx Wi HB HO sl8 ⊢;obtain⟨j,hj⟩:∃j:Nat,(n:Int)-(TP-8)=j:=⟨((n:Int)-(TP-8)).toNat,by omega⟩
  have hj2:(n:Int)-TP+8=j:=by omega
  rw[hj2,W]at iX;have hj8:(j:Int)<8:=by omega
  have hlen:=YO (A pw (y kl) cw) ZZ TP SS sl8;obtain⟨G,hG⟩:=ZN (J.setIfInBounds bo (K (Yb (A pw (y kl) cw) ZZ TP SS).toArray 65));rw[<-hG]at hx Wi HB HO ⊢;have y5:V.hc G ⟨bo,2,R⟩=M (L D TP):=by rw[Zl hx];rfl
  have w1:QQ G ⟨bo,3+j,R⟩ (H true)=M (G.setIfInBounds bo (K (Yb (A pw (y kl) cw) ZZ TP (SS.set j true)).toArray 65)):=by
   rw[Xh hx,if_pos ⟨by rw[hlen];omega,rfl⟩,aD]
  rw[iX];have Zl0:(SS.set j true).length=8:=by rw[List.length_set];exact sl8
  obtain⟨S2,hS2⟩:=ZN (SS.set j true);rw[<-hS2]at w1 Zl0 ⊢;have mC:=YO (A pw (y kl) cw) ZZ TP S2 Zl0;have o2:=UY (p:=pw) (n:=(y kl)) (c:=cw) ZZ TP S2;have tk2:=XB mC;have hxb:=Yc (o:=K (Yb (A pw (y kl) cw) ZZ TP S2).toArray 65) hx;have rb:=Zz hxb mC;have ZtY:(G.setIfInBounds bo (K (Yb (A pw (y kl) cw) ZZ TP S2).toArray 65))[h.size+1]? = M (K Vn.toArray 65):=by rw[X,if_neg (by omega)];exact Wi
  have w2:=wrZ ZtY mC o2;have k5:=Za Wi;have HO2:Yx (h.size+1+1) 5 (G.setIfInBounds bo (K (Yb (A pw (y kl) cw) ZZ TP S2).toArray 65)) (A pw (y kl) cw) kl:=
   HO.lI (x:=M bo) ⟨by simp,fun b hb Y4=>by rw[X,if_neg (fun e=>Y4 (by rw[e]))]⟩ (fun b hb e=>by have:=Jlt b hb;simp at e;omega)
  have HB2:=(HB.Zs (b:=bo) (by omega) (K (Yb (A pw (y kl) cw) ZZ TP S2).toArray 65)).Zs (b:=h.size+1) (by omega) (K (Yb (A pw (y kl) cw) ZZ TP S2).toArray 65);simp -implicitDefEqProofs only[go_sem,f1,f2,f4,f5,f20,f21,Xv,y5,hj,hj8,W,w1,rb,w2,mC,tk2,k5];exact⟨⟨_,rfl,(HO2.Z9 (by omega) _).mono (by omega)⟩,HB2⟩
theorem yF{a b c d:Nat}(ha:a<256)(hb:b<256)(hc:c<256)(hd:d<256):YN .or D (YN .or D (YN .or D (Xo D (a:Int) 24) (Xo D (b:Int) 16)) (Xo D (c:Int) 8)) (d:Int)=((16777216*a+65536*b+256*c+d:Nat):Int):=by
 have e1:Xo D (a:Int) 24=((a*16777216:Nat):Int):=Rc ha 24 nT;have e2:Xo D (b:Int) 16=((b*65536:Nat):Int):=Rc hb 16 nT;have e3:Xo D (c:Int) 8=((c*256:Nat):Int):=Rc hc 8 nT;have f1:a*16777216 ||| b*65536=a*16777216+b*65536:=Uo (k:=24) nT nT
 have f2:(a*16777216+b*65536) ||| c*256=a*16777216+b*65536+c*256:=Uo (k:=16) nT nT
 rw[e1,e2,e3,Mc _ _ nT nT,f1,Mc _ _ nT nT,f2,Mc _ _ nT nT,Uo (k:=8) nT nT]
 congr 1;omega
def VD(l:List Nat):Nat:=16777216*l.getD 0 0+65536*l.getD 1 0+256*l.getD 2 0+l.getD 3 0
theorem jg{l:List Nat}(w:∀x∈l,x<256)(hl:4<=(y l)):YH (VD l)=l.take 4:=by
 match l,hl with
 | a :: b :: c :: d :: l,_=>
  have h1:=w a uK;have h2:=w b uK;have h3:=w c uK;have h4:=w d uK;show [_,_,_,_]=[a,b,c,d]
  have e:VD (a :: b :: c :: d :: l)=16777216*a+65536*b+256*c+d:=rfl;rw[e]
  congr 1
  .omega
  .congr 1
   .omega
   .congr 1
    .omega
    .congr 1
     omega
theorem Zhc{a b c d:Nat}(ha:a<256)(hb:b<256)(hc:c<256)(hd:d<256):16777216*a+65536*b+256*c+d<4294967296:=nT
theorem Zc6(l:List Nat):VD l=16777216*l.getD 0 0+65536*l.getD 1 0+256*l.getD 2 0+l.getD 3 0:=by unfold VD;rfl
def Wn(kl:List Nat)(ZZ Z1:Int)(s:List Bool)(rc:List Nat):Int:=
 if Ja (y kl) ZZ Z1 s≠0 then 5 else if 2020<(y rc) then 1 else if (y rc)<20 then 13 else if 1073741824<=VD rc then 2 else
 if EY Z1 s (VD rc)=true then 7 else Ng kl (XM (YH (VD rc))) (YH (VD rc)) (rc.drop 4)
def DO(kl rc:List Nat):List Nat:=mz kl (XM (YH (VD rc))) (rc.drop 4)
def IJ(Z1:Int)(s:List Bool)(n:Nat):List Bool:=Jy (RT Z1 s 8++[(n:Int)]) (max Z1 (n+1))
def BF(B:Nat)(h':Hp)(v':ab)(kl:List Nat)(ZZ Z1:Int)(s:List Bool)(rc:List Nat):Prop:=∃cw w,v'=.tuple [cw,w,L D (Wn kl ZZ Z1 s rc)].toArray /\
 mB B h' cw (Wn kl ZZ Z1 s rc) kl ZZ (max Z1 (VD rc+1)) (IJ Z1 s (VD rc))/\Yx B 5 h' w (if Wn kl ZZ Z1 s rc=0 then DO kl rc else [])
theorem yG{Z1:Int}{s:List Bool}{n:Nat}(h:¬EY Z1 s n=true):¬(n:Int)<Z1-8:=by
 intro ZS;apply h;unfold EY;rw[decide_eq_true ZS];rfl
set_option maxHeartbeats 2000000 in
theorem bL(h:Hp)(k u:ab)(kl rc:List Nat)(ZZ Z1:Int)(s:List Bool)(hs:(y s)=8)(sk:Bs h k kl)(sp:Bs h u rc)(ck:PM k)(cu:PM u):
  Zd Z T 79 #[.agg (Yb k ZZ Z1 s).toArray,u] h fun v' h'=>BF h.size h' v' kl ZZ Z1 s rc/\Zj h.size h h':=by
 have wr':=sp.byte;obtain⟨p,c,rfl,_⟩:=sk.open;obtain⟨q,d,rfl,hqc⟩:=sp.VJ;have cu:(y rc)<=d:=cu;have TV:=YO (A p (y kl) c) ZZ Z1 s hs;have tk:=XB TV;refine Zd.Ld [_,_] Tryz.func79 ?_;simp -implicitDefEqProofs only[go_sem,TV,tk];have Rk:Zj h.size h ((h.push (K (Yb (A p (y kl) c) ZZ Z1 s).toArray 65)).push (K Vn.toArray 65)):=by (repeat' (first|exact Zj.refl _ _|assumption|refine Zj.add ?_ _|refine Zj.Zs ?_ (by first|omega|(simp;omega)) _|refine Zj.trans (by assumption) ?_))
 refine (Lj T _ p (y kl) c ZZ Z1 s hs).use ?_;rintro _ g1 ⟨rfl,b1⟩;have x0:g1[h.size]? = M (K (Yb (A p (y kl) c) ZZ Z1 s).toArray 65):=b1.get (by simp only[O];omega) (by simp only[Y,O,aa,↓reduceIte]);have x1:g1[h.size+1]? = M (K Vn.toArray 65):=b1.get (by simp only[O];omega) (by simp only[Y,O,aa,↓reduceIte]<;>rfl);have Wf:Zj h.size h g1:=Rk.trans (b1.mono (by simp;omega));have z1:=Za x1;clear b1 Rk;have PD:Wn kl ZZ Z1 s rc=if Ja (y kl) ZZ Z1 s≠0 then 5 else if 2020<(y rc) then 1 else if (y rc)<20 then 13 else if 1073741824<=VD rc then 2 else
 if EY Z1 s (VD rc)=true then 7 else Ng kl (XM (YH (VD rc))) (YH (VD rc)) (rc.drop 4):=rfl
 unfold BF mB DO;have hbe:VD rc=16777216*rc.getD 0 0+65536*rc.getD 1 0+256*rc.getD 2 0+rc.getD 3 0:=Zc6 rc;have h4:4<=(y rc)->YH (VD rc)=rc.take 4:=fun hl=>jg wr' hl;obtain⟨E,hE⟩:=ZN (Wn kl ZZ Z1 s rc);rw[<-hE]at PD ⊢;clear hE;obtain⟨n,hn⟩:=ZN (VD rc);rw[<-hn]at PD hbe h4 ⊢;clear hn;have wz:∀g:Hp,g[h.size+1]? = M (K Vn.toArray 65)->wr g ⟨h.size+1,0,R⟩ [A R 0 0,L D 0,L D 0,H false,H false,H false,H false,H false,H false,H false,H false]=M (g.setIfInBounds (h.size+1) (K [A R 0 0,L D 0,L D 0,H false,H false,H false,H false,H false,H false,H false,H false].toArray 65)):=fun g hg=>wrZ hg rfl rfl;have hBz:∀g:Hp,Zj h.size h g->Zj h.size h (g.setIfInBounds (h.size+1) (K #[A R 0 0,L D 0,L D 0,H false,H false,H false,H false,H false,H false,H false,H false] 65)):=fun g hg=>hg.Zs (by omega) _;have wz1:=wz g1 x1;by_cases e0:Ja (y kl) ZZ Z1 s=0
 .obtain⟨hk,s0,s1,t0,t1⟩:=LC e0;rw[if_neg (by simp[e0])]at PD;by_cases hm:2020<(y rc)
  .rw[if_pos hm]at PD;have HE:2020<((y rc):Int):=by omega
   simp -implicitDefEqProofs only[go_sem,e0,HE,wz1,z1];exact⟨⟨_,_,by rw[PD];rfl,⟨_,rfl,Yx.nil _ _ _⟩,Yx.nil _ _ _⟩,hBz _ Wf⟩
  .rw[if_neg hm]at PD;have HE:¬2020<((y rc):Int):=by omega
   by_cases ur:(y rc)<20
   .rw[if_pos ur]at PD;have Zhd:((y rc):Int)<20:=by omega
    simp -implicitDefEqProofs only[go_sem,e0,HE,Zhd,wz1,z1];exact⟨⟨_,_,by rw[PD];rfl,⟨_,rfl,Yx.nil _ _ _⟩,Yx.nil _ _ _⟩,hBz _ Wf⟩
   .rw[if_neg ur]at PD;have Zhd:¬((y rc):Int)<20:=by omega
    obtain⟨bb,oo,rfl,T5,hqc⟩:=hqc (by intro e;rw[e]at ur;simp at ur);have u0:V.hc g1 ⟨bb,oo+0,R⟩=M (L .u8 (rc.getD 0 0:Nat)):=by rw[Wf.hc (by exact T5)];exact hqc 0 (by omega)
    have u1:V.hc g1 ⟨bb,oo+1,R⟩=M (L .u8 (rc.getD 1 0:Nat)):=by rw[Wf.hc (by exact T5)];exact hqc 1 (by omega)
    have u2:V.hc g1 ⟨bb,oo+2,R⟩=M (L .u8 (rc.getD 2 0:Nat)):=by rw[Wf.hc (by exact T5)];exact hqc 2 (by omega)
    have u3:V.hc g1 ⟨bb,oo+3,R⟩=M (L .u8 (rc.getD 3 0:Nat)):=by rw[Wf.hc (by exact T5)];exact hqc 3 (by omega)
    rw[Nat.add_zero]at u0;have w0:=Z3 wr' 0;have w1:=Z3 wr' 1;have w2:=Z3 wr' 2;have w3:=Z3 wr' 3;have h4:=h4 (by omega);have s4:=Nc sp (m:=4) (by omega) 4;rw[<-h4]at s4;generalize rc.getD 0 0=r0 at *;generalize rc.getD 1 0=r1 at *;generalize rc.getD 2 0=r2 at *;generalize rc.getD 3 0=r3 at *;have Zl1:Unit->_:=fun _=>PD;clear PD;have ZsZ:n<4294967296:=by rw[hbe];exact Zhc w0 w1 w2 w3
    have d4:(4:Int)<=d:=by omega
    have sh:Unit->YN .or D (YN .or D (YN .or D (Xo D (r0:Int) 24) (Xo D (r1:Int) 16)) (Xo D (r2:Int) 8)) (r3:Int)=(n:Int):=fun _=>by rw[yF w0 w1 w2 w3,hbe]
    clear hbe;simp -implicitDefEqProofs only[go_sem,e0,HE,Zhd,d4];refine VS.mono (N:=fun F g=>g1=g/\F 1=A (M ⟨bb,oo,R⟩) (y rc) d/\F 2=al (M ⟨h.size,0,R⟩)/\F 4=al (M ⟨h.size+1,0,R⟩)/\F 8=A (M ⟨bb,oo,R⟩) 4 4/\F 9=L D n) ?_ ?_ (fun _ _ _ h=>h) (fun _ _ h=>h)
    .refine VS.q mixed (by kernel_rfl) ?_;simp -implicitDefEqProofs only[go_sem,u0,u1,u2,u3];exact congrArg _ (sh ())
    clear sh w0 w1 w2 w3;have PD:=Zl1 ();clear Zl1;rintro F _ ⟨rfl,f1,f2,f4,f8,f9⟩;by_cases hb:1073741824<=n
    .rw[if_pos hb]at PD;have J9:(1073741824:Int)<=(n:Int):=by clear PD;omega
     simp -implicitDefEqProofs only[go_sem,f1,f2,f4,f8,f9,J9,wz1,z1];exact⟨⟨_,_,by rw[PD];rfl,⟨_,rfl,Yx.nil _ _ _⟩,Yx.nil _ _ _⟩,hBz _ Wf⟩
    .rw[if_neg hb]at PD;have J9:¬(1073741824:Int)<=(n:Int):=by clear PD;omega
     have rC:rd g1 ⟨h.size,0,R⟩ 11=M (Yb (A p (y kl) c) ZZ Z1 s):=Zz x0 TV;simp -implicitDefEqProofs only[go_sem,f1,f2,f4,f8,f9,J9,rC];refine (Zha T _ _ ZZ Z1 s n hs t0 t1 (by clear PD;omega)).use ?_;rintro _ g2 ⟨rfl,b2⟩;have x02:=b2.get (Nat.lt_of_succ_lt z1) x0;have x12:=b2.get z1 x1;have z2:=b2.size;have SA:=Wf.trans (b2.mono Wf.size);have wz2:=wz g2 x12;have zl2:=Za x12;by_cases yH:EY Z1 s n=true
     .rw[if_pos yH]at PD;simp -implicitDefEqProofs only[go_sem,f1,f2,f4,f8,f9,yH,wz2,zl2];exact⟨⟨_,_,by rw[PD];rfl,⟨_,rfl,Yx.nil _ _ _⟩,Yx.nil _ _ _⟩,hBz _ SA⟩
     .rw[if_neg yH]at PD;have ZlF:=yG yH;have Zl3:EY Z1 s n=false:=by simpa using yH
      have y0:V.hc g2 ⟨h.size,0,R⟩=M (A p (y kl) c):=by rw[Zl x02];rfl
      have zl0:=Za x02;have l4:(YH n).length=4:=rfl;have l12:(XM (YH n)).length<=1000:=by simp[XM,YH]
      have sbk:=O0 sp rfl (k:=4) (by omega) cu (d-4);have ZtZ:(4:Int)<=(y rc):=by clear PD;omega
      simp -implicitDefEqProofs only[go_sem,f1,f2,f4,f8,f9,Zl3];refine VS.w (g2.size) [] (.q 0 (.q 1 (.q 2 (.q 4 (.q 5 (.q 6 (.s 3 (.s 7 (.q 8 (.q 9 (.q 10 (.q 11 (.q 12 .nil))))))))))))) mixed (by kernel_rfl) ?_;simp -implicitDefEqProofs only[go_sem,f1,f2,f4,f8,f9,y0,zl0,ZtZ,WO];refine (LA T _ _ _ (s4.Yz SA) (by rw[l4];decide)).use ?_;rintro vn g3 ⟨on,b3⟩;have z3:=b3.size;have b3T:Zj g2.size g2 g3=True:=eq_true b3;have uo:=SA.trans (b3.mono SA.size);simp -implicitDefEqProofs only[go_sem,f1,f2,f4,f8,f9,b3T];refine (Zc4 T _ _ _ _ _ kl (XM (YH n)) (YH n) (rc.drop 4) (sk.Yz uo) on.bs (s4.Yz uo) (sbk.Yz uo) ck on.cap (show (y rc)-4<=d-4 by omega)).use ?_;rintro _ g4 ⟨⟨w4,rfl,o4⟩,b4⟩;have z4:=b4.size;have fE:Zj g2.size g2 g4:=b3.trans (b4.mono z3);have yE:Zj g2.size g2 g4=True:=eq_true fE;rw[<-PD]at o4 ⊢;have x14:=fE.get zl2 x12;have x04:=fE.get zl0 x02;have EU:=SA.trans (fE.mono SA.size);have wz4:=wz g4 x14;have zl4:=Za x14;clear PD;by_cases hE0:E=0
      .subst hE0;rw[if_pos rfl]at o4;have rC4:rd g4 ⟨h.size,0,R⟩ 11=M (Yb (A p (y kl) c) ZZ Z1 s):=Zz x04 TV;simp -implicitDefEqProofs only[go_sem,f1,f2,f4,f8,f9,yE,rC4];refine (Zc5 T _ _ kl ZZ Z1 s n hs (sk.Yz EU) (by omega) t0 t1 (by omega) ZlF).use ?_;rintro _ g5 ⟨⟨w5,rfl,o5⟩,b5⟩;have x15:=b5.get zl4 x14;have z5:=b5.size;obtain⟨pw,cw,rfl,_⟩:=o5.open;have l8:(IJ Z1 s n).length=8:=SD _ _;have Ho:=YO (A pw (y kl) cw) ZZ (max Z1 ((n:Int)+1)) (IJ Z1 s n) l8;have oD:=UY (p:=pw) (n:=(y kl)) (c:=cw) ZZ (max Z1 ((n:Int)+1)) (IJ Z1 s n);have qj:=XB Ho;have wD:=wrZ x15 Ho oD;have zl5:=Za x15;rw[show Jy (RT Z1 s 8++[(n:Int)]) (max Z1 ((n:Int)+1))=IJ Z1 s n from rfl];have o4':=o4.Yz b5 (Q _);obtain⟨C5,hC5⟩:=ZN (Yb (A pw (y kl) cw) ZZ (max Z1 ((n:Int)+1)) (IJ Z1 s n));rw[<-hC5]at Ho oD qj wD ⊢;simp -implicitDefEqProofs only[go_sem,f1,f2,f4,f8,f9,yE,wD,Ho,qj,zl5];exact⟨⟨_,_,rfl,⟨_,by rw[hC5],(o5.Z9 (by omega) _).mono (by omega)⟩,(o4'.Z9 (by omega) _).mono (by omega)⟩,(EU.trans (b5.mono EU.size)).Zs (by omega) _⟩
      .rw[if_neg hE0]at o4;simp -implicitDefEqProofs only[go_sem,f1,f2,f4,f8,f9,yE,hE0,wz4,zl4];exact⟨⟨_,_,rfl,⟨_,rfl,Yx.nil _ _ _⟩,Yx.nil _ _ _⟩,hBz _ EU⟩
 .rw[if_pos e0]at PD;have e5:=(LB (y kl) ZZ Z1 s).resolve_left e0;simp -implicitDefEqProofs only[go_sem,e5,wz1,z1];exact⟨⟨_,_,by rw[PD];rfl,⟨_,rfl,Yx.nil _ _ _⟩,Yx.nil _ _ _⟩,hBz _ Wf⟩
end Go.Proofs.YtdapjaalaomghaaGreatDoor
