/- Part Takf. -/
import Derived.Test.YtnhfdnlcpdbjlaaGreatDoorPolg
import Derived.Test.YtnhfdnlcpdbjlaaGreatDoorMix
import Derived.Test.YtnhfdnlcpdbjlaaGreatDoorBytes
import Derived.Test.YtnhfdnlcpdbjlaaGreatDoorVst
import Derived.Test.YtnhfdnlcpdbjlaaGreatDoorW15
import Derived.Test.YtnhfdnlcpdbjlaaGreatDoorLine
import Derived.Test.YtnhfdnlcpdbjlaaGreatDoorW13
open Go.Value renaming slice→A,bool→H,int→L,pointer→am
open Go.IntKind renaming i64→D
open Go.Obj renaming cells→K
open Go.Proofs.Tryz renaming underlying34→U,prog→Z
open List renaming length→y,replicate→al,length_append→an
open Nat renaming le_refl→Q,shiftRight_eq_div_pow→au
open Int renaming toNat_natCast→W
open Option renaming some→M,none→R
open Array renaming size_push→O,getElem?_setIfInBounds→X,getElem?_push→Y
open Bool renaming false_or→aw
open Go.IntWalk renaming iteOmega→aa
open Go renaming Value→ak
namespace Go.Proofs.YtnhfdnlcpdbjlaaGreatDoor
open Go Go.V
set_option linter.all false
set_option maxRecDepth 100000
variable(T:World)
def py(l:List Nat):List Nat:=l++al ((16-(y l)%16)%16) 0
def ax(n:Nat):List Nat:=(List.range 8).map fun i=>n/256 ^ i%256
def S3(Zi Qz:List Nat):List Nat:=py Zi++py Qz++ax (y Zi)++ax (y Qz)
def UR(key ZD Zi Qz:List Nat):List Nat:=ie ((Jm key 0 ZD).take 32) (S3 Zi Qz)
theorem ay(l:List Nat):(py l).length=(y l)+(16-(y l)%16)%16:=by simp[py]
theorem Hf(l:List Nat):(py l).length<=(y l)+15:=by rw[ay];omega
theorem QP(n:Nat):(ax n).length=8:=by simp[ax]
theorem De(h:Hp)(v:ak)(l:List Nat)(s:Bs h v l)(hl:(y l)<=4000):
  Zg Z T 116 #[v] h fun v' h'=>YB h.size 5 h' v' (py l)/\Zk h.size h h':=by
 obtain⟨p,c,rfl,Vx⟩:=s.open;refine Zg.XK [_] Tryz.func116 ?_;simp -implicitDefEqProofs only[go_sem];refine ZR (E:=5) (B:=h.size) Xn U TX SN SM (YB.nil _ _ _) (Q _) s vI ?_;intro v1 h1 o1 b1 _;rw[List.nil_append]at o1;have e1:(((y l):Nat):Int).tmod 16=(((y l)%16:Nat):Int):=rfl;have e2:(16:Int)-(((y l)%16:Nat):Int)=((16-(y l)%16:Nat):Int):=mD;have e3:((16-(y l)%16:Nat):Int).tmod 16=(((16-(y l)%16)%16:Nat):Int):=rfl;simp -implicitDefEqProofs only[go_sem,e1,e2,e3];refine H6 (E:=5) (B:=h.size) Xn Tryz.underlying3 TX SN SM o1 b1.size mD ?_;intro v2 h2 o2 b2 _;simp -implicitDefEqProofs only[go_sem];exact⟨o2,b1.trans b2⟩
theorem Df(h:Hp)(n:Nat)(hn:n<9223372036854775808):
  Zg Z T 117 #[L D n] h fun v' h'=>YB h.size 5 h' v' (ax n)/\Zk h.size h h':=by
 refine Zg.XK [_] Tryz.func117 ?_;simp -implicitDefEqProofs only[go_sem];refine VS.Yq (fun F g=>Zk h.size h g/\F 0=L D n/\∃j:Nat,j<=8/\F 4=L D (8*j:Nat)/\YB h.size 5 g (F 3) ((ax n).take j))
  (fun F _=>64-(vi (F 4)).toNat) rfl ⟨Zk.refl _ _,rfl,0,mD,rfl,YB.nil _ _ _⟩ ?_
 rintro F g ⟨hg,f0,j,hj,f4,ho⟩;have PQ:=hg.size;by_cases ZV:j<8
 .have Z4:((8*j:Nat):Int)<64:=mD;have e1:Jc D (n:Int) ((8*j:Nat):Int)=((n/256 ^ j:Nat):Int):=by
   rw[OF D n (8*j) (by show 8*j<=64;omega),au,Nat.pow_mul]
  have e2:((n/256 ^ j:Nat):Int)%256=((n/256 ^ j%256:Nat):Int):=rfl;have e3:¬((8*j:Nat):Int)<0:=mD;have e4:((8*j:Nat):Int)+8=((8*(j+1):Nat):Int):=mD;simp -implicitDefEqProofs only[go_sem,f0,f4,Z4,e1,e2,e3];have hX:n/256 ^ j%256<256:=Nat.mod_lt _ KC;refine ZR (E:=5) (B:=h.size) Xn U TX SN SM (ho.push _) vI (Bs.one hX 1) (by simp[QP];omega) ?_;intro v' h' NP JU _;simp -implicitDefEqProofs only[go_sem,f0,f4,e4];refine⟨⟨(hg.Y1 PQ _).trans JU,f0,j+1,ZV,rfl,?_⟩,?_⟩
  .rw[Y0 _ j (by rw[QP];exact ZV)];have e:(ax n)[j]'(by rw[QP];exact ZV)=n/256 ^ j%256:=by simp[ax]
   rw[e];exact NP
  .simp only[vi,Zt,↓reduceIte,f4];omega
 .have Xw:¬((8*j:Nat):Int)<64:=mD;obtain rfl:j=8:=mD;rw[List.take_of_length_le (by rw[QP];exact Q _)]at ho;simp -implicitDefEqProofs only[go_sem,f0,f4,Xw];exact⟨ho,hg⟩
theorem Nx{key ZD:List Nat}{k:Int}(hk:(y key)=32)(hn:(y ZD)=12)(h0:0<=k)(h1:k<=1073741824):JJ key k ZD=0:=by
 unfold JJ;rw[if_neg mD,if_neg mD]
theorem Er(key:List Nat)(k:Nat)(ZD:List Nat):(Jm key k ZD).length=64:=by simp[Jm,Ek]
theorem az{Zi Qz:List Nat}(hk:(y Zi)<=256)(hs:(y Qz)<=2000):(S3 Zi Qz).length<=2400:=by
 unfold S3;have h1:=Hf Zi;have h2:=Hf Qz;simp only[an,QP];omega
theorem aA{key data:List Nat}(hk:(y key)=32)(hd:(y data)<=4000):Sp key data=0:=by
 unfold Sp;rw[if_neg mD]
set_option maxHeartbeats 1000000 in
theorem Ic(h:Hp)(v u kn sv:ak)(key ZD Zi Qz:List Nat)(sk:Bs h v key)(sn:Bs h u ZD)(sw:Bs h kn Zi)(ss:Bs h sv Qz)(hk:(y key)=32)(hn:(y ZD)=12)(hw:(y Zi)<=256)(hs:(y Qz)<=2000)(ck:Pj v)(cn:Pj u):
  Zg Z T 86 #[v,u,kn,sv] h fun v' h'=>YB h.size 5 h' v' (UR key ZD Zi Qz)/\Zk h.size h h':=by
 obtain⟨pw,cw,rfl,_⟩:=sw.open;obtain⟨ps,cs,rfl,_⟩:=ss.open;refine Zg.XK [_,_,_,_] Tryz.func86 ?_;simp -implicitDefEqProofs only[go_sem];refine (wE T _ _ _ key ZD 0 sk sn ck cn).use ?_;rintro _ h1 ⟨⟨w1,rfl,o1⟩,b1⟩;have e0:=Nx (k:=0) hk hn KC KC;rw[e0,if_pos rfl]at o1;rw[e0];have o1:YB h.size 5 h1 w1 (Jm key 0 ZD):=o1;have z1:=b1.size;simp -implicitDefEqProofs only[go_sem];refine (De T _ _ Zi (sw.YJ b1) mD).use ?_;rintro v2 h2 ⟨o2,b2⟩;have z2:=b2.size;have B2:=b1.trans (b2.mono z1);simp -implicitDefEqProofs only[go_sem];refine (De T _ _ Qz (ss.YJ B2) mD).use ?_;rintro v3 h3 ⟨o3,b3⟩;have z3:=b3.size;have B3:=B2.trans (b3.mono mD);have l1:=Hf Zi;have l2:=Hf Qz;simp -implicitDefEqProofs only[go_sem];refine ZR (E:=5) (B:=h1.size) Xn U TX SN SM (o2.YJ b3 (Q _)) mD o3.bs mD ?_;intro v4 h4 o4 b4 _;have z4:=b4.size;simp -implicitDefEqProofs only[go_sem];refine (Df T _ (y Zi) mD).use ?_;rintro v5 h5 ⟨o5,b5⟩;have z5:=b5.size;simp -implicitDefEqProofs only[go_sem];refine ZR (E:=5) (B:=h1.size) Xn U TX SN SM (o4.YJ b5 (Q _)) mD o5.bs (by simp only[an,QP];omega) ?_;intro v6 h6 o6 b6 _;have z6:=b6.size;simp -implicitDefEqProofs only[go_sem];refine (Df T _ (y Qz) mD).use ?_;rintro v7 h7 ⟨o7,b7⟩;have z7:=b7.size;simp -implicitDefEqProofs only[go_sem];refine ZR (E:=5) (B:=h1.size) Xn U TX SN SM (o6.YJ b7 (Q _)) mD o7.bs (by simp only[an,QP];omega) ?_;intro v8 h8 o8 b8 _;have z8:=b8.size;have o8:YB h1.size 5 h8 v8 (S3 Zi Qz):=o8;have B8:Zk h1.size h1 h8:=(((((b2.trans (b3.mono z2)).trans b4).trans (b5.mono mD)).trans b6).trans (b7.mono mD)).trans b8;have o1':=o1.YJ B8 (Q _);have sX:=Er key 0 ZD;obtain⟨pb,cb,rfl,DX⟩:=o1'.open;rw[sX]at DX o1' ⊢;have s32:=OQ o1'.bs (m:=32) mD cb;have c32:(32:Int)<=cb:=mD;have l32:((Jm key 0 ZD).take 32).length=32:=aaa;have hd:=az hw hs;simp -implicitDefEqProofs only[go_sem,c32];refine (av T _ _ _ ((Jm key 0 ZD).take 32) (S3 Zi Qz) s32 o8.bs (show 32<=cb by omega) o8.cap).use ?_;rintro _ h9 ⟨⟨w9,rfl,o9⟩,b9⟩;have e9:=aA (data:=S3 Zi Qz) l32 mD;rw[e9,if_pos rfl]at o9;rw[e9];simp -implicitDefEqProofs only[go_sem];exact⟨o9.mono mD,(b1.trans (B8.mono z1)).trans (b9.mono mD)⟩
def Qj(k n w m Jt:Nat):Int:=if k≠32\/n≠12\/256<w\/Jt<m then 1 else 0
theorem Lc{k n w m Jt:Nat}(e:Qj k n w m Jt=0):k=32/\n=12/\w<=256/\m<=Jt:=by
 unfold Qj at e;split at e
 .cases e
 .omega
theorem Ie{k n w m Jt:Nat}(e:¬Qj k n w m Jt=0):Qj k n w m Jt=1:=by
 unfold Qj at e ⊢;split
 .rfl
 .rename_i h;rw[if_neg h]at e;exact (e rfl).elim
theorem Ld(h:Hp)(p q r s:Option Addr)(k n w m c1 c2 c3 c4 Jt:Nat):
  Zg Z T 84 #[A p k c1,A q n c2,A r w c3,A s m c4,L D Jt] h fun v' h'=>v'=L D (Qj k n w m Jt)/\h'=h:=by
 refine Zg.XK [_,_,_,_,_] Tryz.func84 ?_;unfold Qj;by_cases q0:k=32
 ·
  by_cases q1:n=12
  ·
   by_cases q2:w<=256
   ·
    by_cases q3:m<=Jt
    ·
     have c0:(k:Int)=32\/¬(k:Int)=32:=mD;have c1:(n:Int)=12\/¬(n:Int)=12:=mD;have c2:256<(w:Int)\/¬256<(w:Int):=mD;have c3:(Jt:Int)<(m:Int)\/¬(Jt:Int)<(m:Int):=mD;rcases c0 with c0|c0<;>rcases c1 with c1|c1<;>rcases c2 with c2|c2<;>rcases c3 with c3|c3<;>first
      | (exfalso;omega)
      | (rw[if_neg mD];simp -implicitDefEqProofs only[go_sem,c0,c1,c2,c3])
      | (rw[if_pos mD];simp -implicitDefEqProofs only[go_sem,c0,c1,c2,c3])
    ·
     have c0:(k:Int)=32\/¬(k:Int)=32:=mD;have c1:(n:Int)=12\/¬(n:Int)=12:=mD;have c2:256<(w:Int)\/¬256<(w:Int):=mD;have c3:(Jt:Int)<(m:Int)\/¬(Jt:Int)<(m:Int):=mD;rcases c0 with c0|c0<;>rcases c1 with c1|c1<;>rcases c2 with c2|c2<;>rcases c3 with c3|c3<;>first
      | (exfalso;omega)
      | (rw[if_neg mD];simp -implicitDefEqProofs only[go_sem,c0,c1,c2,c3])
      | (rw[if_pos mD];simp -implicitDefEqProofs only[go_sem,c0,c1,c2,c3])
   ·
    have c0:(k:Int)=32\/¬(k:Int)=32:=mD;have c1:(n:Int)=12\/¬(n:Int)=12:=mD;have c2:256<(w:Int)\/¬256<(w:Int):=mD;have c3:(Jt:Int)<(m:Int)\/¬(Jt:Int)<(m:Int):=mD;rcases c0 with c0|c0<;>rcases c1 with c1|c1<;>rcases c2 with c2|c2<;>rcases c3 with c3|c3<;>first
     | (exfalso;omega)
     | (rw[if_neg mD];simp -implicitDefEqProofs only[go_sem,c0,c1,c2,c3])
     | (rw[if_pos mD];simp -implicitDefEqProofs only[go_sem,c0,c1,c2,c3])
  ·
   have c0:(k:Int)=32\/¬(k:Int)=32:=mD;have c1:(n:Int)=12\/¬(n:Int)=12:=mD;have c2:256<(w:Int)\/¬256<(w:Int):=mD;have c3:(Jt:Int)<(m:Int)\/¬(Jt:Int)<(m:Int):=mD;rcases c0 with c0|c0<;>rcases c1 with c1|c1<;>rcases c2 with c2|c2<;>rcases c3 with c3|c3<;>first
    | (exfalso;omega)
    | (rw[if_neg mD];simp -implicitDefEqProofs only[go_sem,c0,c1,c2,c3])
    | (rw[if_pos mD];simp -implicitDefEqProofs only[go_sem,c0,c1,c2,c3])
 ·
  have c0:(k:Int)=32\/¬(k:Int)=32:=mD;have c1:(n:Int)=12\/¬(n:Int)=12:=mD;have c2:256<(w:Int)\/¬256<(w:Int):=mD;have c3:(Jt:Int)<(m:Int)\/¬(Jt:Int)<(m:Int):=mD;rcases c0 with c0|c0<;>rcases c1 with c1|c1<;>rcases c2 with c2|c2<;>rcases c3 with c3|c3<;>first
   | (exfalso;omega)
   | (rw[if_neg mD];simp -implicitDefEqProofs only[go_sem,c0,c1,c2,c3])
   | (rw[if_pos mD];simp -implicitDefEqProofs only[go_sem,c0,c1,c2,c3])
def Dh(key ZD Zi plain:List Nat):List Nat:=MW key 1 ZD plain++UR key ZD Zi (MW key 1 ZD plain)
def kL(B:Nat)(h':Hp)(v':ak)(key ZD Zi plain:List Nat):Prop:=∃w,v'=.tuple [w,L D (Qj (y key) (y ZD) (y Zi) (y plain) 2000)].toArray/\YB B 5 h' w (if Qj (y key) (y ZD) (y Zi) (y plain) 2000=0 then Dh key ZD Zi plain else [])
theorem If{key ZD:List Nat}{k:Int}{n:Nat}(hk:(y key)=32)(hn:(y ZD)=12)(h0:0<=k)(h1:k<=1073741824)(hm:n<=2000):Sk key k ZD n=0:=by
 unfold Sk;rw[Nx hk hn h0 h1,if_neg sW,if_neg mD]
theorem Hg(key data:List Nat):(ie key data).length<=16:=by rw[ah];exact Q _
theorem Zcs(h:Hp)(v u kn sv:ak)(key ZD Zi plain:List Nat)(sk:Bs h v key)(sn:Bs h u ZD)(sw:Bs h kn Zi)(ss:Bs h sv plain)(ck:Pj v)(cn:Pj u):
  Zg Z T 58 #[v,u,kn,sv] h fun v' h'=>kL h.size h' v' key ZD Zi plain/\Zk h.size h h':=by
 obtain⟨p,c,rfl,_⟩:=sk.open;obtain⟨q,d,rfl,_⟩:=sn.open;obtain⟨pw,cw,rfl,_⟩:=sw.open;obtain⟨ps,cs,rfl,_⟩:=ss.open;refine Zg.XK [_,_,_,_] Tryz.func58 ?_;unfold kL;simp -implicitDefEqProofs only[go_sem];refine (Ld T _ _ _ _ _ _ _ _ _ _ _ _ _ 2000).pure ?_;by_cases e:Qj (y key) (y ZD) (y Zi) (y plain) 2000=0
 .obtain⟨hk,hn,hw,hs⟩:=Lc e;rw[e,if_pos rfl];simp -implicitDefEqProofs only[go_sem,e];refine (wJ T _ _ _ _ key ZD plain 1 sk sn ss ck cn).use ?_;rintro _ h1 ⟨⟨w1,rfl,o1⟩,b1⟩;have e1:=If (k:=1) hk hn KC KC hs;rw[e1,if_pos rfl]at o1;rw[e1];have o1:YB h.size 5 h1 w1 (MW key 1 ZD plain):=o1;have z1:=b1.size;have l1:=T6 key 1 ZD plain;simp -implicitDefEqProofs only[go_sem];refine (Ic T _ _ _ _ _ key ZD Zi (MW key 1 ZD plain) (sk.YJ b1) (sn.YJ b1) (sw.YJ b1) o1.bs hk hn hw mD ck cn).use ?_;rintro v2 h2 ⟨o2,b2⟩;have l2:(UR key ZD Zi (MW key 1 ZD plain)).length<=16:=Hg _ _;have z2:=b2.size;simp -implicitDefEqProofs only[go_sem];refine ZR (E:=5) (B:=h.size) Xn U TX SN SM (o1.YJ b2 (Q _)) mD o2.bs mD ?_;intro v3 h3 o3 b3 _;simp -implicitDefEqProofs only[go_sem];exact⟨⟨_,rfl,o3⟩,(b1.trans (b2.mono z1)).trans b3⟩
 .have e1:=Ie e;rw[if_neg e];simp -implicitDefEqProofs only[go_sem,e1];exact⟨_,rfl,YB.nil _ _ _⟩
theorem Di(a:Option Addr)(c:Nat):gF a 1 c 0=a:=by
 unfold gF;split
 .rfl
 .cases a with
  | none=>rfl
  | some a=>simp[Addr.add]
def Lf(key ZD Zi data:List Nat):Int:=if Qj (y key) (y ZD) (y Zi) (y data) 2016≠0 then 1 else if (y data)<16 then 13 else if UR key ZD Zi (data.take ((y data)-16))≠data.drop ((y data)-16) then 6 else 0
def xx(key ZD data:List Nat):List Nat:=MW key 1 ZD (data.take ((y data)-16))
def kM(B:Nat)(h':Hp)(v':ak)(key ZD Zi data:List Nat):Prop:=∃w,v'=.tuple [w,L D (Lf key ZD Zi data)].toArray/\YB B 5 h' w (if Lf key ZD Zi data=0 then xx key ZD data else [])
theorem Zct(h:Hp)(v u kn sv:ak)(key ZD Zi data:List Nat)(sk:Bs h v key)(sn:Bs h u ZD)(sw:Bs h kn Zi)(ss:Bs h sv data)(ck:Pj v)(cn:Pj u)(cs:Pj sv):
  Zg Z T 88 #[v,u,kn,sv] h fun v' h'=>kM h.size h' v' key ZD Zi data/\Zk h.size h h':=by
 obtain⟨p,c,rfl,_⟩:=sk.open;obtain⟨q,d,rfl,_⟩:=sn.open;obtain⟨pw,cw,rfl,_⟩:=sw.open;obtain⟨ps,cd,rfl,_⟩:=ss.open;have cs:(y data)<=cd:=cs;refine Zg.XK [_,_,_,_] Tryz.func88 ?_;unfold kM;simp -implicitDefEqProofs only[go_sem];refine (Ld T _ _ _ _ _ _ _ _ _ _ _ _ _ 2016).pure ?_;have xy:Lf key ZD Zi data=if Qj (y key) (y ZD) (y Zi) (y data) 2016≠0 then 1 else if (y data)<16 then 13 else if UR key ZD Zi (data.take ((y data)-16))≠data.drop ((y data)-16) then 6 else 0:=rfl
 by_cases e:Qj (y key) (y ZD) (y Zi) (y data) 2016=0
 .obtain⟨hk,hn,hw,hs⟩:=Lc e;rw[if_neg (by simp[e])]at xy;by_cases h16:(y data)<16
  .rw[if_pos h16]at xy;rw[xy];have n0:((y data):Int)-16<0:=mD;simp -implicitDefEqProofs only[go_sem,e,n0];exact⟨_,rfl,YB.nil _ _ _⟩
  .rw[if_neg h16]at xy;have n0:¬(((y data)-16:Nat):Int)<0:=mD;have n1:((y data):Int)-16=(((y data)-16:Nat):Int):=mD;have sfr:=OQ ss (m:=(y data)-16) mD cd;have sbk:=OK ss rfl (k:=(y data)-16) mD cs (cd-((y data)-16));have lfr:(data.take ((y data)-16)).length=(y data)-16:=aaa;have ZkU:(((y data)-16:Nat):Int)<=cd:=mD;have Zs3:(((y data)-16:Nat):Int)<=(y data):=mD;simp -implicitDefEqProofs only[go_sem,e,n1,n0];refine VS.z (h.size) [] (.p 0 (.p 1 (.p 2 (.p 3 (.p 4 (.p 5 (.p 7 (.p 8 (.p 9 (.s 6 (.s 10 (.p 11 .nil)))))))))))) mixed sV ?_;simp -implicitDefEqProofs only[go_sem,ZkU,Zs3,W,Wj,Di];refine (Ic T _ _ _ _ _ key ZD Zi (data.take ((y data)-16)) sk sn sw sfr hk hn hw mD ck cn).use ?_;rintro v1 h1 ⟨o1,b1⟩;have l1:(UR key ZD Zi (data.take ((y data)-16))).length<=16:=Hg _ _;simp -implicitDefEqProofs only[go_sem,b1];refine (Cq T _ _ _ _ _ o1.bs (sbk.YJ b1) mD).pure ?_;obtain⟨S,hS⟩:=ZP (UR key ZD Zi (data.take ((y data)-16)));rw[<-hS]at xy ⊢;by_cases ht:S=data.drop ((y data)-16)
   .rw[if_neg (by simp[ht])]at xy;rw[xy,if_pos rfl];have ht':decide (S=data.drop ((y data)-16))=true:=decide_eq_true ht;simp -implicitDefEqProofs only[go_sem,b1,ht',ZkU,Wj,Di];refine (wJ T _ _ _ _ key ZD (data.take ((y data)-16)) 1 (sk.YJ b1) (sn.YJ b1) (sfr.YJ b1) ck cn).use ?_;rintro _ h2 ⟨⟨w2,rfl,o2⟩,b2⟩;have e2:=If (k:=1) hk hn KC KC (show (data.take ((y data)-16)).length<=2000 by omega);rw[e2,if_pos rfl]at o2;rw[e2];have o2:YB h1.size 5 h2 w2 (xx key ZD data):=o2;simp -implicitDefEqProofs only[go_sem];exact⟨⟨_,rfl,o2.mono b1.size⟩,b1.trans (b2.mono b1.size)⟩
   .rw[if_pos ht]at xy;rw[xy];have ht':decide (S=data.drop ((y data)-16))=false:=decide_eq_false ht;simp -implicitDefEqProofs only[go_sem,b1,ht'];exact⟨_,rfl,YB.nil _ _ _⟩
 .have e1:=Ie e;rw[if_pos e]at xy;rw[xy];simp -implicitDefEqProofs only[go_sem,e1];exact⟨_,rfl,YB.nil _ _ _⟩
def XJ(n:Nat):List Nat:=[n/16777216%256,n/65536%256,n/256%256,n%256]
theorem iw(n:Nat):∀x∈XJ n,x<256:=by
 intro x hx;simp only[XJ,List.mem_cons,List.not_mem_nil,or_false]at hx;omega
theorem GB(n k:Nat)(hk:k<=64):Jc D (n:Int) (k:Int)=((n/2 ^ k:Nat):Int):=by
 rw[OF D n k hk,au]
theorem aB(h:Hp)(n:Nat)(hn:n<=1073741824):
  Zg Z T 57 #[L D n] h fun v' h'=>YB h.size 5 h' v' (XJ n)/\Zk h.size h h':=by
 refine Zg.XK [_] Tryz.func57 ?_;have e1:Jc D (n:Int) 24%256=((n/16777216%256:Nat):Int):=by rw[show (24:Int)=((24:Nat):Int) from rfl,GB n 24 mD];omega
 have e2:Jc D (n:Int) 16%256=((n/65536%256:Nat):Int):=by rw[show (16:Int)=((16:Nat):Int) from rfl,GB n 16 mD];omega
 have e3:Jc D (n:Int) 8%256=((n/256%256:Nat):Int):=by rw[show (8:Int)=((8:Nat):Int) from rfl,GB n 8 mD];omega
 have e4:(n:Int)%256=((n%256:Nat):Int):=mD;simp -implicitDefEqProofs only[go_sem,e1,e2,e3,e4];exact YB.made (l:=XJ n) (iw n) (Q _)
def Qk(l:List Nat):List Nat:=al 8 0++l
theorem Zgx:(Qa 12 [Value.int .u8 0])=(al 12 0).map bv:=rfl
theorem Lg(h:Hp)(v:ak)(l:List Nat)(s:Bs h v l)(hl:(y l)<=1000):
  Zg Z T 59 #[v] h fun v' h'=>YB h.size 5 h' v' (Qk l)/\Zk h.size h h':=by
 refine Zg.XK [_] Tryz.func59 ?_;simp -implicitDefEqProofs only[go_sem,Zgx];have o1:YB h.size 5 (h.push (K ((al 12 0).map bv).toArray 5)) (A (M ⟨h.size,0,R⟩) 8 12) (al 8 0):=by
  refine⟨.inr ⟨h.size,12,(al 4 0).map bv,Q _,rfl,?_,sW,sW,sW⟩,fun x hx=>by rw[List.eq_of_mem_replicate hx];decide⟩;rw[Zd,<-List.map_append];rfl
 refine ZR (E:=5) (B:=h.size) Xn U TX SN SM o1 sW (s.YJ (Zk.push (Q _) _)) vI ?_;intro v' h' NP JU _;simp -implicitDefEqProofs only[go_sem];exact⟨NP,(Zk.push (Q _) _).trans JU⟩
def Sa(n:Nat)(Z2 Z5:Int)(s:List Bool)(m:Nat):Int:=if Jg n Z2 Z5 s≠0 then 5 else if 2000<m then 1 else if Z2=1073741824 then 8 else 0
def Ql:List Bool:=[false,false,false,false,false,false,false,false]
def ix(kl:List Nat)(n:Nat)(plain:List Nat):List Nat:=XJ n++Dh kl (Qk (XJ n)) (XJ n) plain
def kO(B:Nat)(h':Hp)(cw:ak)(e:Int)(kl:List Nat)(Z2 Z5:Int)(s:List Bool):Prop:=Ct B h' cw (if e=0 then kl else []) (if e=0 then Z2 else 0) (if e=0 then Z5 else 0) (if e=0 then s else Ql)
def CR(B:Nat)(h':Hp)(v':ak)(kl:List Nat)(Z2 Z5:Int)(s:List Bool)(plain:List Nat):Prop:=∃cw w,v'=.tuple [cw,w,L D (Sa (y kl) Z2 Z5 s (y plain))].toArray /\
 kO B h' cw (Sa (y kl) Z2 Z5 s (y plain)) kl (Z2+1) Z5 s/\YB B 5 h' w (if Sa (y kl) Z2 Z5 s (y plain)=0 then ix kl Z2.toNat plain else [])
theorem Lh(n:Nat)(Z2 Z5:Int)(s:List Bool):Jg n Z2 Z5 s=0\/Jg n Z2 Z5 s=5:=by
 unfold Jg
 repeat' split
 all_goals simp
theorem Li{n:Nat}{Z2 Z5:Int}{s:List Bool}(e:Jg n Z2 Z5 s=0):n=32/\0<=Z2/\Z2<=1073741824/\0<=Z5/\Z5<=1073741824:=by
 unfold Jg at e;split at e
 .cases e
 .omega
theorem wrZ{G:Hp}{b:Nat}(hx:G[b]? = M (K WJ.toArray 111)){w:List ak}(h11:(y w)=11)(h1:w.all YN=true):wr G ⟨b,0,R⟩ w=M (G.setIfInBounds b (K w.toArray 111)):=by
 rw[Yh hx 0 w,Yb (by rw[h11];rfl),if_pos ⟨by rw[h11];exact Q _,h1⟩]
set_option maxHeartbeats 1000000 in
theorem aC(h:Hp)(k u:ak)(kl plain:List Nat)(Z2 Z5:Int)(s:List Bool)(hs:(y s)=8)(sk:Bs h k kl)(sp:Bs h u plain)(ck:Pj k):
  Zg Z T 35 #[.agg (Yc k Z2 Z5 s).toArray,u] h fun v' h'=>CR h.size h' v' kl Z2 Z5 s plain/\Zk h.size h h':=by
 obtain⟨p,c,rfl,_⟩:=sk.open;obtain⟨q,d,rfl,_⟩:=sp.open;have TB:=YO (A p (y kl) c) Z2 Z5 s hs;have tk:=Ji TB;refine Zg.LY [_,_] Tryz.func35 ?_;simp -implicitDefEqProofs only[go_sem,TB,tk];have SW:Zk h.size h ((h.push (K (Yc (A p (y kl) c) Z2 Z5 s).toArray 111)).push (K WJ.toArray 111)):=by (repeat' (first|exact Zk.refl _ _|assumption|refine Zk.add ?_ _|refine Zk.Zu ?_ (by first|omega|(simp;omega)) _|refine Zk.trans (by assumption) ?_))
 refine (MQ T _ p (y kl) c Z2 Z5 s hs).use ?_;rintro _ g1 ⟨rfl,b1⟩;have x0:g1[h.size]? = M (K (Yc (A p (y kl) c) Z2 Z5 s).toArray 111):=b1.get (by simp only[O];omega) (by simp only[Y,O,aa,↓reduceIte]);have x1:g1[h.size+1]? = M (K WJ.toArray 111):=b1.get (by simp only[O];omega) (by simp only[Y,O,aa,↓reduceIte];rfl);have WC:Zk h.size h g1:=SW.trans (b1.mono (by simp;omega));have z1:=Za x1;clear b1 SW;have Pe:Sa (y kl) Z2 Z5 s (y plain)=if Jg (y kl) Z2 Z5 s≠0 then 5 else if 2000<(y plain) then 1 else if Z2=1073741824 then 8 else 0:=rfl
 unfold CR kO;obtain⟨E,hE⟩:=ZP (Sa (y kl) Z2 Z5 s (y plain));rw[<-hE]at Pe ⊢;have wz:=wrZ x1 (w:=[A R 0 0,L D 0,L D 0,H false,H false,H false,H false,H false,H false,H false,H false]) rfl rfl;have hBz:Zk h.size h (g1.setIfInBounds (h.size+1) (K #[A R 0 0,L D 0,L D 0,H false,H false,H false,H false,H false,H false,H false,H false] 111)):=WC.Zu (by omega) _;by_cases e0:Jg (y kl) Z2 Z5 s=0
 .obtain⟨hk,s0,s1,t0,t1⟩:=Li e0;rw[if_neg (by simp[e0])]at Pe;by_cases hm:2000<(y plain)
  .rw[if_pos hm]at Pe;have I3:2000<((y plain):Int):=by omega
   simp -implicitDefEqProofs only[go_sem,e0,I3,wz,z1];exact⟨⟨_,_,by rw[Pe];rfl,⟨_,rfl,YB.nil _ _ _⟩,YB.nil _ _ _⟩,hBz⟩
  .rw[if_neg hm]at Pe;have I3:¬2000<((y plain):Int):=by omega
   have y1:V.hc g1 ⟨h.size,1,R⟩=M (L D Z2):=by rw[Zn x0];rfl
   have y0:V.hc g1 ⟨h.size,0,R⟩=M (A p (y kl) c):=by rw[Zn x0];rfl
   by_cases hf:Z2=1073741824
   .rw[if_pos hf]at Pe;have hf':(Z2=1073741824)=True:=eq_true hf;simp -implicitDefEqProofs only[go_sem,e0,I3,y1,hf',wz,z1];exact⟨⟨_,_,by rw[Pe];rfl,⟨_,rfl,YB.nil _ _ _⟩,YB.nil _ _ _⟩,hBz⟩
   .rw[if_neg hf]at Pe;rw[Pe];obtain⟨n,rfl⟩:∃n:Nat,Z2=n:=⟨Z2.toNat,by omega⟩
    rw[W];simp -implicitDefEqProofs only[go_sem,e0,I3,y1,hf];refine (aB T _ n (by omega)).use ?_;rintro vh g2 ⟨oh,b2⟩;have z2:=b2.size;have x0':=b2.get (by omega) x0;have x1':=b2.get (by omega) x1;have y0':V.hc g2 ⟨h.size,0,R⟩=M (A p (y kl) c):=by rw[Zn x0'];rfl
    have Py:=WC.trans (b2.mono WC.size);have L9:h.size<g2.size:=by omega
    simp -implicitDefEqProofs only[go_sem];refine VS.z (g2.size) [] (.p 0 (.q 1 (.p 2 (.p 4 (.p 5 (.s 3 (.s 6 (.p 7 (.p 8 (.p 9 (.p 10 (.p 11 .nil)))))))))))) mixed (by kernel_rfl) ?_;simp -implicitDefEqProofs only[go_sem,y0',L9];refine (Lg T _ _ _ oh.bs (by simp[XJ])).use ?_;rintro vn g3 ⟨on,b3⟩;have z3:=b3.size;have b3T:Zk g2.size g2 g3=True:=eq_true b3;simp -implicitDefEqProofs only[go_sem,b3T];refine (Zcs T _ _ _ _ _ kl (Qk (XJ n)) (XJ n) plain ((sk.YJ Py).YJ b3) on.bs (oh.bs.YJ b3) ((sp.YJ Py).YJ b3) ck on.cap).use ?_;rintro _ g4 ⟨⟨w4,rfl,o4⟩,b4⟩;have z4:=b4.size;have eS:Qj (y kl) (Qk (XJ n)).length (XJ n).length (y plain) 2000=0:=by
     unfold Qj Qk XJ;rw[if_neg];simp;omega
    rw[eS,if_pos rfl]at o4;rw[eS];have dM:Zk g2.size g2 g4:=b3.trans (b4.mono z3);have xz:Zk g2.size g2 g4=True:=eq_true dM;have Zs5:=dM.get (by omega) x0';have Zs6:=dM.get (by omega) x1';have kG:=Py.trans (dM.mono Py.size);have rC:rd g4 ⟨h.size,0,R⟩ 11=M (Yc (A p (y kl) c) n Z5 s):=ZA Zs5 TB;simp -implicitDefEqProofs only[go_sem,xz,rC];refine (vU T _ _ kl n Z5 s hs (sk.YJ kG) (by omega)).use ?_;rintro _ g5 ⟨⟨w5,rfl,o5⟩,b5⟩;have z5:=b5.size;obtain⟨pw,cw,rfl,_⟩:=o5.open;have ZkW:=b5.get (by omega) Zs6;have IU:=YO (A pw (y kl) cw) n Z5 s hs;have tkD:=Ji IU;have oD:=UA (p:=pw) (n:=(y kl)) (c:=cw) n Z5 s;have lpD:∀v,Xd [v,L D 0,L D 0,H false,H false,H false,H false,H false,H false,H false,H false] 0 (Yc (A pw (y kl) cw) n Z5 s)=Yc (A pw (y kl) cw) n Z5 s:=fun v=>Yb IU;have nD:nth (Yc (A pw (y kl) cw) n Z5 s) 1=M (L D n):=rfl;have e1:(n:Int)+1=((n+1:Nat):Int):=rfl;have sD:(Yc (A pw (y kl) cw) n Z5 s).set 1 (L D ((n+1:Nat):Int))=Yc (A pw (y kl) cw) ((n+1:Nat):Int) Z5 s:=rfl;have Dj:=YO (A pw (y kl) cw) ((n+1:Nat):Int) Z5 s hs;have ZkX:=Ji Dj;have oD':=UA (p:=pw) (n:=(y kl)) (c:=cw) ((n+1:Nat):Int) Z5 s;simp -implicitDefEqProofs only[go_sem,IU,tkD,oD,lpD,nD,e1,sD];have rJ:rd (g5.push (K (Yc (A pw (y kl) cw) ((n+1:Nat):Int) Z5 s).toArray 111)) ⟨g5.size,0,R⟩ 11=M (Yc (A pw (y kl) cw) ((n+1:Nat):Int) Z5 s):=ZA Zd Dj;have xJ:(g5.push (K (Yc (A pw (y kl) cw) ((n+1:Nat):Int) Z5 s).toArray 111))[g5.size]? = M (K (Yc (A pw (y kl) cw) ((n+1:Nat):Int) Z5 s).toArray 111):=Zd;have xZ:(g5.push (K (Yc (A pw (y kl) cw) ((n+1:Nat):Int) Z5 s).toArray 111))[h.size+1]? = M (K WJ.toArray 111):=by rw[ZF (by omega)];exact ZkW
    have hB5:=kG.trans (b5.mono kG.size);have hBJ:Zk h.size h (g5.push (K (Yc (A pw (y kl) cw) ((n+1:Nat):Int) Z5 s).toArray 111)):=hB5.Y1 hB5.size _;have ohJ:=(oh.YJ (dM.trans (b5.mono (by omega))) (Q _)).push (K (Yc (A pw (y kl) cw) ((n+1:Nat):Int) Z5 s).toArray 111);have owJ:=o5.push (K (Yc (A pw (y kl) cw) ((n+1:Nat):Int) Z5 s).toArray 111);have o4J:=(o4.YJ b5 (Q _)).push (K (Yc (A pw (y kl) cw) ((n+1:Nat):Int) Z5 s).toArray 111);have zJ:(g5.push (K (Yc (A pw (y kl) cw) ((n+1:Nat):Int) Z5 s).toArray 111)).size=g5.size+1:=by simp
    have ZV:=oh.Zr.lt;have vz:=oh.Zr.ZZ;have ZkY:=o5.Zr.ZZ;have ZEL:=o5.Zr.lt;have lS:(Dh kl (Qk (XJ n)) (XJ n) plain).length<=2016:=by
     have l1:=T6 kl 1 (Qk (XJ n)) plain;have l2:(UR kl (Qk (XJ n)) (XJ n) (MW kl 1 (Qk (XJ n)) plain)).length<=16:=Hg _ _;unfold Dh;rw[an];omega
    have lh:(XJ n).length=4:=rfl;obtain⟨J,hJ⟩:=ZP (g5.push (K (Yc (A pw (y kl) cw) ((n+1:Nat):Int) Z5 s).toArray 111));rw[<-hJ]at rJ xJ xZ hBJ ohJ owJ o4J zJ ⊢;clear hJ;have key:∀v' h',YB g1.size 5 h' v' (XJ n++Dh kl (Qk (XJ n)) (XJ n) plain)->Zk g1.size J h'->Rs (Ya vh) J h' ->
      rd h' ⟨g5.size,0,R⟩ 11=M (Yc (A pw (y kl) cw) ((n+1:Nat):Int) Z5 s)/\wr h' ⟨h.size+1,0,R⟩ (Yc (A pw (y kl) cw) ((n+1:Nat):Int) Z5 s)=M (h'.setIfInBounds (h.size+1) (K (Yc (A pw (y kl) cw) ((n+1:Nat):Int) Z5 s).toArray 111)) /\
      (Zk (h.size+1) J h'=True)/\(Zk (h.size+1) J (h'.setIfInBounds (h.size+1) (K (Yc (A pw (y kl) cw) ((n+1:Nat):Int) Z5 s).toArray 111))=True)/\h.size+1<h'.size /\
      YB h.size 5 (h'.setIfInBounds (h.size+1) (K (Yc (A pw (y kl) cw) ((n+1:Nat):Int) Z5 s).toArray 111)) (A pw (y kl) cw) kl /\
      YB h.size 5 (h'.setIfInBounds (h.size+1) (K (Yc (A pw (y kl) cw) ((n+1:Nat):Int) Z5 s).toArray 111)) v' (ix kl n plain) /\
      Zk h.size h (h'.setIfInBounds (h.size+1) (K (Yc (A pw (y kl) cw) ((n+1:Nat):Int) Z5 s).toArray 111)):=by
     intro v' h' NP JU NQ;have xZ':=JU.get (k:=h.size+1) (by omega) xZ;have xJ':h'[g5.size]? = M (K (Yc (A pw (y kl) cw) ((n+1:Nat):Int) Z5 s).toArray 111):=by
      rw[NQ.block g5.size (by omega) (fun e=>by have:=ZV _ e;omega)];exact xJ
     have ow':=owJ.ve NQ (fun b hb e=>by have:=ZkY b hb;have:=ZV _ e;omega);have Cd:Zk (h.size+1) J h':=JU.mono (by omega);exact⟨ZA xJ' Dj,wrZ xZ' Dj oD',eq_true Cd,eq_true (Cd.Zu (Q _) _),Za xZ',(ow'.Yi (by omega) _).mono (by omega),(NP.Yi (by omega) _).mono (by omega),(hBJ.trans (JU.mono (by omega))).Zu (by omega) _⟩
    refine VS.z (h.size+1) [] (.p 1 (.p 2 (.or 0 (.s 3 (.s 4 (.p 5 (.p 6 .nil)))) (.s 3 (.s 0 (.s 4 (.p 5 (.p 6 .nil)))))))) mixed (by kernel_rfl) ?_;simp -implicitDefEqProofs only[go_sem,rJ];refine⟨?_,?_⟩
    .refine ZR (E:=5) (B:=g1.size) Xn U TX SN SM ohJ (by omega) o4J.bs (by omega) ?_;intro v' h' NP JU NQ;obtain⟨k1,k2,k3,k4,k5,k6,k7,k8⟩:=key v' h' NP JU NQ;simp -implicitDefEqProofs only[go_sem,k1,k2,k3,k4,k5,Dj,ZkX];exact⟨⟨_,_,rfl,⟨_,rfl,k6⟩,k7⟩,k8⟩
    .refine ZR (E:=5) (B:=g1.size) Xn U TX SN SM ohJ (by omega) o4J.bs (by omega) ?_;intro v' h' NP JU NQ;obtain⟨k1,k2,k3,k4,k5,k6,k7,k8⟩:=key v' h' NP JU NQ;simp -implicitDefEqProofs only[go_sem,k1,k2,k3,k4,k5,Dj,ZkX];exact⟨⟨_,_,rfl,⟨_,rfl,k6⟩,k7⟩,k8⟩
 .rw[if_pos e0]at Pe;have e5:=(Lh (y kl) Z2 Z5 s).resolve_left e0;simp -implicitDefEqProofs only[go_sem,e5,wz,z1];exact⟨⟨_,_,by rw[Pe];rfl,⟨_,rfl,YB.nil _ _ _⟩,YB.nil _ _ _⟩,hBz⟩
def aD(Z5:Int)(s:List Bool)(n:Nat):Bool:=decide ((n:Int)<Z5-8)||(decide ((n:Int)<Z5)&&s.getD ((n:Int)-(Z5-8)).toNat false)
theorem Zgy(h:Hp)(k:ak)(Z2 Z5:Int)(s:List Bool)(n:Nat)(hs:(y s)=8)(t0:0<=Z5)(t1:Z5<=1073741824)(hn:n<1073741824):
  Zg Z T 87 #[.agg (Yc k Z2 Z5 s).toArray,L D n] h fun v' h'=>v'=H (aD Z5 s n)/\Zk h.size h h':=by
 have TB:=YO k Z2 Z5 s hs;have tk:=Ji TB;have n2:nth (Yc k Z2 Z5 s) 2=M (L D Z5):=rfl;refine Zg.XK [_,_] Tryz.func87 ?_;unfold aD;by_cases q1:(n:Int)<Z5-8
 .have d1:decide ((n:Int)<Z5-8)=true:=decide_eq_true q1;simp -implicitDefEqProofs only[go_sem,TB,tk,n2,q1,d1,Bool.true_or]
 .have d1:decide ((n:Int)<Z5-8)=false:=decide_eq_false q1;by_cases q2:(n:Int)<Z5
  .have d2:decide ((n:Int)<Z5)=true:=decide_eq_true q2;obtain⟨i,hi⟩:∃i:Nat,(n:Int)-(Z5-8)=i:=⟨((n:Int)-(Z5-8)).toNat,mD⟩
   have hi8:i<8:=mD;have Zta:(i:Int)<8:=mD;have n3:nth (Yc k Z2 Z5 s) (3+i)=M (H (s.getD i false)):=by
    have:=OI s i mD;rw[Y7]at this ⊢;rw[<-this];show (k :: L D Z2 :: L D Z5 :: s.map Value.bool)[3+i]? = _;rw[Nat.add_comm];rfl
   simp -implicitDefEqProofs only[go_sem,TB,tk,n2,q1,q2,d1,d2,hi,Zta,W,n3,aw]
  .have d2:decide ((n:Int)<Z5)=false:=decide_eq_false q2;simp -implicitDefEqProofs only[go_sem,TB,tk,n2,q1,q2,d1,d2,aw]
theorem iy(k:ak)(Z2 Z5:Int)(s t:List Bool)(hs:(y s)=8)(ht:(y t)=8):Xd (Yc k Z2 Z5 s) 3 (t.map Value.bool)=Yc k Z2 Z5 t:=by
 have:=VQ [k,L D Z2,L D Z5] (s.map Value.bool) (t.map Value.bool);rw[Yb (by simp[hs,ht])]at this;exact this
set_option maxHeartbeats 1000000 in
theorem Zcv(h:Hp)(k:ak)(kl:List Nat)(Z2 Z5:Int)(s:List Bool)(n:Nat)(hs:(y s)=8)(sk:Bs h k kl)(hk:(y kl)<=140737488355328)(t0:0<=Z5)(t1:Z5<=1073741824)(hn:n<1073741824)(hm:¬(n:Int)<Z5-8):
  Zg Z T 89 #[.agg (Yc k Z2 Z5 s).toArray,L D n] h fun v' h'=>Ct h.size h' v' kl Z2 (max Z5 (n+1)) (Jv (Ry Z5 s 8++[(n:Int)]) (max Z5 (n+1)))/\Zk h.size h h':=by
 obtain⟨p,c,rfl,_⟩:=sk.open;have TB:=YO (A p (y kl) c) Z2 Z5 s hs;have tk:=Ji TB;refine Zg.LY [_,_] Tryz.func89 ?_;simp -implicitDefEqProofs only[go_sem,TB,tk];have SW:Zk h.size h ((h.push (K (Yc (A p (y kl) c) Z2 Z5 s).toArray 111)).push (K WJ.toArray 111)):=by (repeat' (first|exact Zk.refl _ _|assumption|refine Zk.add ?_ _|refine Zk.Zu ?_ (by first|omega|(simp;omega)) _|refine Zk.trans (by assumption) ?_))
 refine (vU T _ _ kl Z2 Z5 s hs (sk.YJ SW) hk).use ?_;rintro _ g1 ⟨⟨w,rfl,o1⟩,b1⟩;have x0:g1[h.size]? = M (K (Yc (A p (y kl) c) Z2 Z5 s).toArray 111):=b1.get (by simp only[O];omega) (by simp only[Y,O,aa,↓reduceIte]);have x1:g1[h.size+1]? = M (K WJ.toArray 111):=b1.get (by simp only[O];omega) (by simp only[Y,O,aa,↓reduceIte]<;>rfl);have WC:Zk h.size h g1:=SW.trans (b1.mono (by simp;omega));have z1:=Za x1;simp only[O]at o1;obtain⟨pw,cw,rfl,_⟩:=o1.open;clear b1 SW;have y2:V.hc g1 ⟨h.size,2,R⟩=M (L D Z5):=by rw[Zn x0];rfl
 have IU:=YO (A pw (y kl) cw) Z2 Z5 s hs;have tkD:=Ji IU;have oD:=UA (p:=pw) (n:=(y kl)) (c:=cw) Z2 Z5 s;have lpD:∀v,Xd [v,L D 0,L D 0,H false,H false,H false,H false,H false,H false,H false,H false] 0 (Yc (A pw (y kl) cw) Z2 Z5 s)=Yc (A pw (y kl) cw) Z2 Z5 s:=fun v=>Yb IU;have e1:(n:Int)+1=((n+1:Nat):Int):=rfl;obtain⟨TP,hTP⟩:∃TP:Int,TP=max Z5 (n+1):=⟨_,rfl⟩
 have vD:(if ((n+1:Nat):Int)>Z5 then ((n+1:Nat):Int) else Z5)=TP:=by rw[hTP];split<;>omega
 have sD:(Yc (A pw (y kl) cw) Z2 Z5 s).set 2 (L D TP)=Yc (A pw (y kl) cw) Z2 TP s:=rfl;have Ztb:=YO (A pw (y kl) cw) Z2 TP s hs;have lE:Xd (Yc (A pw (y kl) cw) Z2 TP s) 3 [H false,H false,H false,H false,H false,H false,H false,H false]=Yc (A pw (y kl) cw) Z2 TP (Jv (Ry Z5 s 0) TP):=iy (A pw (y kl) cw) Z2 TP s Ql hs rfl;have y0r:rd g1 ⟨h.size,3,R⟩ 8=M (s.map Value.bool):=by
  have LN:(s.map Value.bool).length=8:=by rw[List.length_map,hs]
  have:=YI x0 (o:=3) (n:=8) (by rw[TB];omega);rw[this];have e:(Yc (A p (y kl) c) Z2 Z5 s).drop 3=s.map Value.bool:=rfl;rw[e,Ji LN]
 rw[<-hTP];simp -implicitDefEqProofs only[go_sem,IU,tkD,oD,lpD,y2,e1,vD,sD,Ztb,lE,y0r];obtain⟨bo,hbo⟩:∃b,b=g1.size:=⟨_,rfl⟩
 obtain⟨J,hJ⟩:=ZP (g1.push (K (Yc (A pw (y kl) cw) Z2 TP (Jv (Ry Z5 s 0) TP)).toArray 111));have J5:J[bo]? = M (K (Yc (A pw (y kl) cw) Z2 TP (Jv (Ry Z5 s 0) TP)).toArray 111):=by rw[hJ,hbo];exact Zd
 have J0:J[h.size]? = M (K (Yc (A p (y kl) c) Z2 Z5 s).toArray 111):=by rw[hJ,ZF (by omega)];exact x0
 have J1:J[h.size+1]? = M (K WJ.toArray 111):=by rw[hJ,ZF (by omega)];exact x1
 have JB:Zk h.size h J:=by rw[hJ];exact WC.Y1 WC.size _
 have Jo:YB (h.size+1+1) 5 J (A pw (y kl) cw) kl:=by rw[hJ];exact o1.push _
 have Jlt:∀b,Ya (A pw (y kl) cw)=M b->b<bo:=fun b hb=>by have:=o1.Zr.lt b hb;omega
 have Jsz:J.size=bo+1:=by rw[hJ,O,hbo]
 rw[<-hJ,<-hbo];clear hJ;refine VS.Yq (fun F g=>F 1=L D n/\F 2=am (M ⟨h.size,0,R⟩)/\F 4=am (M ⟨h.size+1,0,R⟩)/\F 5=am (M ⟨bo,0,R⟩)/\F 20=.agg (s.map Value.bool).toArray/\∃i:Nat,i<=8/\F 21=L D i/\g=J.setIfInBounds bo (K (Yc (A pw (y kl) cw) Z2 TP (Jv (Ry Z5 s i) TP)).toArray 111))
  (fun F _=>8-(vi (F 21)).toNat) rfl ⟨rfl,rfl,rfl,rfl,rfl,0,by omega,rfl,(WK J5).symm⟩ ?_
 rintro F g ⟨f1,f2,f4,f5,f20,i,hi,f21,rfl⟩;have hx:=Yd (o:=K (Yc (A pw (y kl) cw) Z2 TP (Jv (Ry Z5 s i) TP)).toArray 111) J5;have OM:(J.setIfInBounds bo (K (Yc (A pw (y kl) cw) Z2 TP (Jv (Ry Z5 s i) TP)).toArray 111))[h.size]? = M (K (Yc (A p (y kl) c) Z2 Z5 s).toArray 111):=by rw[X,if_neg (by omega)];exact J0
 have sl8:=Sh (Ry Z5 s i) TP;have XE:=nR Z5 s i;obtain⟨SS,hSS⟩:=ZP (Jv (Ry Z5 s i) TP);by_cases ZV:i<8
 .have Z4:(i:Int)<8:=by omega
  rw[<-hSS]at hx OM sl8 ⊢;obtain⟨G,hG⟩:=ZP (J.setIfInBounds bo (K (Yc (A pw (y kl) cw) Z2 TP SS).toArray 111));rw[<-hG]at hx OM ⊢;have n1:=OI s i (by omega);have y2:V.hc G ⟨h.size,2,R⟩=M (L D Z5):=by rw[Zn OM];rfl
  have y5:V.hc G ⟨bo,2,R⟩=M (L D TP):=by rw[Zn hx];rfl
  obtain⟨b,hb⟩:=ZP (s.getD i false);rw[<-hb]at n1 XE
  cases b with
  | false=>
   rw[if_neg (by decide),List.append_nil]at XE;simp -implicitDefEqProofs only[go_sem,f1,f2,f4,f5,f20,f21,Z4,W,n1,y2,y5];refine⟨⟨f1,f2,f4,f5,f20,i+1,ZV,rfl,?_⟩,?_⟩
   .rw[XE,hG,hSS]
   .simp only[vi,Zt,↓reduceIte,f21];omega
  | true=>
   rw[if_pos rfl]at XE;have ij:=KR (Ry Z5 s i) TP (Z5-8+(i:Int)) (by omega);rw[<-XE,<-hSS]at ij;have ex:Z5-8+(i:Int)-TP+8=Z5+(i:Int)-TP:=by omega
   rw[ex]at ij;by_cases hk0:0<=Z5+(i:Int)-TP
   .rw[if_pos hk0]at ij;obtain⟨j,hj⟩:∃j:Nat,Z5+(i:Int)-TP=j:=⟨(Z5+(i:Int)-TP).toNat,by omega⟩
    rw[hj,W]at ij;have hj8:(j:Int)<8:=by omega
    have hj0:(0:Int)<=(j:Int):=by omega
    have ZEP:j<8:=by omega
    have hlen:=YO (A pw (y kl) cw) Z2 TP SS sl8;have w1:QF G ⟨bo,3+j,R⟩ (H true)=M (G.setIfInBounds bo (K (Yc (A pw (y kl) cw) Z2 TP (SS.set j true)).toArray 111)):=by
     rw[Xk hx,if_pos ⟨by rw[hlen];omega,rfl⟩,AI]
    simp -implicitDefEqProofs only[go_sem,f1,f2,f4,f5,f20,f21,Z4,W,n1,y2,y5,hj,hj0,hj8,w1];refine⟨⟨f1,f2,f4,f5,f20,i+1,ZV,rfl,?_⟩,?_⟩
    .rw[ij,hG,set_set]
    .simp only[vi,Zt,↓reduceIte,f21];omega
   .rw[if_neg hk0]at ij;simp -implicitDefEqProofs only[go_sem,f1,f2,f4,f5,f20,f21,Z4,W,n1,y2,y5,hk0];refine⟨⟨f1,f2,f4,f5,f20,i+1,ZV,rfl,?_⟩,?_⟩
    .rw[ij,hG]
    .simp only[vi,Zt,↓reduceIte,f21];omega
 .have Xw:¬(i:Int)<8:=by omega
  obtain rfl:i=8:=by omega
  have c8:((8:Nat):Int)=8:=rfl;rw[c8]at f21 Xw;have ij:=KR (Ry Z5 s 8) TP (n:Int) (by omega);rw[if_pos (by omega),<-hSS]at ij;have UO:(J.setIfInBounds bo (K (Yc (A pw (y kl) cw) Z2 TP (Jv (Ry Z5 s 8) TP)).toArray 111))[h.size+1]? = M (K WJ.toArray 111):=by rw[X,if_neg (by omega)];exact J1
  have HB:=JB.Zu (b:=bo) (by omega) (K (Yc (A pw (y kl) cw) Z2 TP (Jv (Ry Z5 s 8) TP)).toArray 111);have HO:YB (h.size+1+1) 5 (J.setIfInBounds bo (K (Yc (A pw (y kl) cw) Z2 TP (Jv (Ry Z5 s 8) TP)).toArray 111)) (A pw (y kl) cw) kl:=
   Jo.ve (x:=M bo) ⟨by simp,fun b hb Xb=>by rw[X,if_neg (fun e=>Xb (by rw[e]))]⟩ (fun b hb e=>by have:=Jlt b hb;simp at e;omega)
  rw[<-hSS]at hx UO HB HO sl8 ⊢;obtain⟨j,hj⟩:∃j:Nat,(n:Int)-(TP-8)=j:=⟨((n:Int)-(TP-8)).toNat,by omega⟩
  have hj2:(n:Int)-TP+8=j:=by omega
  rw[hj2,W]at ij;have hj8:(j:Int)<8:=by omega
  have hlen:=YO (A pw (y kl) cw) Z2 TP SS sl8;obtain⟨G,hG⟩:=ZP (J.setIfInBounds bo (K (Yc (A pw (y kl) cw) Z2 TP SS).toArray 111));rw[<-hG]at hx UO HB HO ⊢;have y5:V.hc G ⟨bo,2,R⟩=M (L D TP):=by rw[Zn hx];rfl
  have w1:QF G ⟨bo,3+j,R⟩ (H true)=M (G.setIfInBounds bo (K (Yc (A pw (y kl) cw) Z2 TP (SS.set j true)).toArray 111)):=by
   rw[Xk hx,if_pos ⟨by rw[hlen];omega,rfl⟩,AI]
  rw[ij];have Zk1:(SS.set j true).length=8:=by rw[List.length_set];exact sl8
  obtain⟨S2,hS2⟩:=ZP (SS.set j true);rw[<-hS2]at w1 Zk1 ⊢;have kP:=YO (A pw (y kl) cw) Z2 TP S2 Zk1;have o2:=UA (p:=pw) (n:=(y kl)) (c:=cw) Z2 TP S2;have tk2:=Ji kP;have hxb:=Yd (o:=K (Yc (A pw (y kl) cw) Z2 TP S2).toArray 111) hx;have rb:=ZA hxb kP;have Ztd:(G.setIfInBounds bo (K (Yc (A pw (y kl) cw) Z2 TP S2).toArray 111))[h.size+1]? = M (K WJ.toArray 111):=by rw[X,if_neg (by omega)];exact UO
  have w2:=wrZ Ztd kP o2;have k5:=Za UO;have HO2:YB (h.size+1+1) 5 (G.setIfInBounds bo (K (Yc (A pw (y kl) cw) Z2 TP S2).toArray 111)) (A pw (y kl) cw) kl:=
   HO.ve (x:=M bo) ⟨by simp,fun b hb Xb=>by rw[X,if_neg (fun e=>Xb (by rw[e]))]⟩ (fun b hb e=>by have:=Jlt b hb;simp at e;omega)
  have HB2:=(HB.Zu (b:=bo) (by omega) (K (Yc (A pw (y kl) cw) Z2 TP S2).toArray 111)).Zu (b:=h.size+1) (by omega) (K (Yc (A pw (y kl) cw) Z2 TP S2).toArray 111);simp -implicitDefEqProofs only[go_sem,f1,f2,f4,f5,f20,f21,Xw,y5,hj,hj8,W,w1,rb,w2,kP,tk2,k5];exact⟨⟨_,rfl,(HO2.Yi (by omega) _).mono (by omega)⟩,HB2⟩
theorem xC{a b c d:Nat}(ha:a<256)(hb:b<256)(hc:c<256)(hd:d<256):YL .or D (YL .or D (YL .or D (Xq D (a:Int) 24) (Xq D (b:Int) 16)) (Xq D (c:Int) 8)) (d:Int)=((16777216*a+65536*b+256*c+d:Nat):Int):=by
 have e1:Xq D (a:Int) 24=((a*16777216:Nat):Int):=SK ha 24 mD;have e2:Xq D (b:Int) 16=((b*65536:Nat):Int):=SK hb 16 mD;have e3:Xq D (c:Int) 8=((c*256:Nat):Int):=SK hc 8 mD;have f1:a*16777216 ||| b*65536=a*16777216+b*65536:=Ua (k:=24) mD mD
 have f2:(a*16777216+b*65536) ||| c*256=a*16777216+b*65536+c*256:=Ua (k:=16) mD mD
 rw[e1,e2,e3,NO _ _ mD mD,f1,NO _ _ mD mD,f2,NO _ _ mD mD,Ua (k:=8) mD mD]
 congr 1;omega
def Sq(l:List Nat):Nat:=16777216*l.getD 0 0+65536*l.getD 1 0+256*l.getD 2 0+l.getD 3 0
theorem iz{l:List Nat}(w:∀x∈l,x<256)(hl:4<=(y l)):XJ (Sq l)=l.take 4:=by
 match l,hl with
 | a :: b :: c :: d :: l,_=>
  have h1:=w a sW;have h2:=w b sW;have h3:=w c sW;have h4:=w d sW;show [_,_,_,_]=[a,b,c,d]
  have e:Sq (a :: b :: c :: d :: l)=16777216*a+65536*b+256*c+d:=rfl;rw[e]
  congr 1
  .omega
  .congr 1
   .omega
   .congr 1
    .omega
    .congr 1
     omega
theorem ZgA{a b c d:Nat}(ha:a<256)(hb:b<256)(hc:c<256)(hd:d<256):16777216*a+65536*b+256*c+d<4294967296:=mD
theorem Zcw(l:List Nat):Sq l=16777216*l.getD 0 0+65536*l.getD 1 0+256*l.getD 2 0+l.getD 3 0:=by unfold Sq;rfl
def VD(kl:List Nat)(Z2 Z5:Int)(s:List Bool)(rc:List Nat):Int:=
 if Jg (y kl) Z2 Z5 s≠0 then 5 else if 2020<(y rc) then 1 else if (y rc)<20 then 13 else if 1073741824<=Sq rc then 2 else
 if aD Z5 s (Sq rc)=true then 7 else Lf kl (Qk (XJ (Sq rc))) (XJ (Sq rc)) (rc.drop 4)
def kQ(kl rc:List Nat):List Nat:=xx kl (Qk (XJ (Sq rc))) (rc.drop 4)
def Ig(Z5:Int)(s:List Bool)(n:Nat):List Bool:=Jv (Ry Z5 s 8++[(n:Int)]) (max Z5 (n+1))
def CS(B:Nat)(h':Hp)(v':ak)(kl:List Nat)(Z2 Z5:Int)(s:List Bool)(rc:List Nat):Prop:=∃cw w,v'=.tuple [cw,w,L D (VD kl Z2 Z5 s rc)].toArray /\
 kO B h' cw (VD kl Z2 Z5 s rc) kl Z2 (max Z5 (Sq rc+1)) (Ig Z5 s (Sq rc))/\YB B 5 h' w (if VD kl Z2 Z5 s rc=0 then kQ kl rc else [])
theorem xE{Z5:Int}{s:List Bool}{n:Nat}(h:¬aD Z5 s n=true):¬(n:Int)<Z5-8:=by
 intro ZV;apply h;unfold aD;rw[decide_eq_true ZV];rfl
set_option maxHeartbeats 2000000 in
theorem aE(h:Hp)(k u:ak)(kl rc:List Nat)(Z2 Z5:Int)(s:List Bool)(hs:(y s)=8)(sk:Bs h k kl)(sp:Bs h u rc)(ck:Pj k)(cu:Pj u):
  Zg Z T 61 #[.agg (Yc k Z2 Z5 s).toArray,u] h fun v' h'=>CS h.size h' v' kl Z2 Z5 s rc/\Zk h.size h h':=by
 have wr':=sp.byte;obtain⟨p,c,rfl,_⟩:=sk.open;obtain⟨q,d,rfl,hqc⟩:=sp.Vn;have cu:(y rc)<=d:=cu;have TB:=YO (A p (y kl) c) Z2 Z5 s hs;have tk:=Ji TB;refine Zg.LY [_,_] Tryz.func61 ?_;simp -implicitDefEqProofs only[go_sem,TB,tk];have SW:Zk h.size h ((h.push (K (Yc (A p (y kl) c) Z2 Z5 s).toArray 111)).push (K WJ.toArray 111)):=by (repeat' (first|exact Zk.refl _ _|assumption|refine Zk.add ?_ _|refine Zk.Zu ?_ (by first|omega|(simp;omega)) _|refine Zk.trans (by assumption) ?_))
 refine (MQ T _ p (y kl) c Z2 Z5 s hs).use ?_;rintro _ g1 ⟨rfl,b1⟩;have x0:g1[h.size]? = M (K (Yc (A p (y kl) c) Z2 Z5 s).toArray 111):=b1.get (by simp only[O];omega) (by simp only[Y,O,aa,↓reduceIte]);have x1:g1[h.size+1]? = M (K WJ.toArray 111):=b1.get (by simp only[O];omega) (by simp only[Y,O,aa,↓reduceIte]<;>rfl);have WC:Zk h.size h g1:=SW.trans (b1.mono (by simp;omega));have z1:=Za x1;clear b1 SW;have Pe:VD kl Z2 Z5 s rc=if Jg (y kl) Z2 Z5 s≠0 then 5 else if 2020<(y rc) then 1 else if (y rc)<20 then 13 else if 1073741824<=Sq rc then 2 else
 if aD Z5 s (Sq rc)=true then 7 else Lf kl (Qk (XJ (Sq rc))) (XJ (Sq rc)) (rc.drop 4):=rfl
 unfold CS kO kQ;have hbe:Sq rc=16777216*rc.getD 0 0+65536*rc.getD 1 0+256*rc.getD 2 0+rc.getD 3 0:=Zcw rc;have h4:4<=(y rc)->XJ (Sq rc)=rc.take 4:=fun hl=>iz wr' hl;obtain⟨E,hE⟩:=ZP (VD kl Z2 Z5 s rc);rw[<-hE]at Pe ⊢;clear hE;obtain⟨n,hn⟩:=ZP (Sq rc);rw[<-hn]at Pe hbe h4 ⊢;clear hn;have wz:∀g:Hp,g[h.size+1]? = M (K WJ.toArray 111)->wr g ⟨h.size+1,0,R⟩ [A R 0 0,L D 0,L D 0,H false,H false,H false,H false,H false,H false,H false,H false]=M (g.setIfInBounds (h.size+1) (K [A R 0 0,L D 0,L D 0,H false,H false,H false,H false,H false,H false,H false,H false].toArray 111)):=fun g hg=>wrZ hg rfl rfl;have hBz:∀g:Hp,Zk h.size h g->Zk h.size h (g.setIfInBounds (h.size+1) (K #[A R 0 0,L D 0,L D 0,H false,H false,H false,H false,H false,H false,H false,H false] 111)):=fun g hg=>hg.Zu (by omega) _;have wz1:=wz g1 x1;by_cases e0:Jg (y kl) Z2 Z5 s=0
 .obtain⟨hk,s0,s1,t0,t1⟩:=Li e0;rw[if_neg (by simp[e0])]at Pe;by_cases hm:2020<(y rc)
  .rw[if_pos hm]at Pe;have I3:2020<((y rc):Int):=by omega
   simp -implicitDefEqProofs only[go_sem,e0,I3,wz1,z1];exact⟨⟨_,_,by rw[Pe];rfl,⟨_,rfl,YB.nil _ _ _⟩,YB.nil _ _ _⟩,hBz _ WC⟩
  .rw[if_neg hm]at Pe;have I3:¬2020<((y rc):Int):=by omega
   by_cases xF:(y rc)<20
   .rw[if_pos xF]at Pe;have ZgB:((y rc):Int)<20:=by omega
    simp -implicitDefEqProofs only[go_sem,e0,I3,ZgB,wz1,z1];exact⟨⟨_,_,by rw[Pe];rfl,⟨_,rfl,YB.nil _ _ _⟩,YB.nil _ _ _⟩,hBz _ WC⟩
   .rw[if_neg xF]at Pe;have ZgB:¬((y rc):Int)<20:=by omega
    obtain⟨bb,oo,rfl,Tu,hqc⟩:=hqc (by intro e;rw[e]at xF;simp at xF);have u0:V.hc g1 ⟨bb,oo+0,R⟩=M (L .u8 (rc.getD 0 0:Nat)):=by rw[WC.hc (by exact Tu)];exact hqc 0 (by omega)
    have u1:V.hc g1 ⟨bb,oo+1,R⟩=M (L .u8 (rc.getD 1 0:Nat)):=by rw[WC.hc (by exact Tu)];exact hqc 1 (by omega)
    have u2:V.hc g1 ⟨bb,oo+2,R⟩=M (L .u8 (rc.getD 2 0:Nat)):=by rw[WC.hc (by exact Tu)];exact hqc 2 (by omega)
    have u3:V.hc g1 ⟨bb,oo+3,R⟩=M (L .u8 (rc.getD 3 0:Nat)):=by rw[WC.hc (by exact Tu)];exact hqc 3 (by omega)
    rw[Nat.add_zero]at u0;have w0:=Z3 wr' 0;have w1:=Z3 wr' 1;have w2:=Z3 wr' 2;have w3:=Z3 wr' 3;have h4:=h4 (by omega);have s4:=OQ sp (m:=4) (by omega) 4;rw[<-h4]at s4;generalize rc.getD 0 0=r0 at *;generalize rc.getD 1 0=r1 at *;generalize rc.getD 2 0=r2 at *;generalize rc.getD 3 0=r3 at *;have Zk2:Unit->_:=fun _=>Pe;clear Pe;have Zsc:n<4294967296:=by rw[hbe];exact ZgA w0 w1 w2 w3
    have d4:(4:Int)<=d:=by omega
    have sh:Unit->YL .or D (YL .or D (YL .or D (Xq D (r0:Int) 24) (Xq D (r1:Int) 16)) (Xq D (r2:Int) 8)) (r3:Int)=(n:Int):=fun _=>by rw[xC w0 w1 w2 w3,hbe]
    clear hbe;simp -implicitDefEqProofs only[go_sem,e0,I3,ZgB,d4];refine VS.mono (N:=fun F g=>g1=g/\F 1=A (M ⟨bb,oo,R⟩) (y rc) d/\F 2=am (M ⟨h.size,0,R⟩)/\F 4=am (M ⟨h.size+1,0,R⟩)/\F 8=A (M ⟨bb,oo,R⟩) 4 4/\F 9=L D n) ?_ ?_ (fun _ _ _ h=>h) (fun _ _ h=>h)
    .refine VS.q mixed (by kernel_rfl) ?_;simp -implicitDefEqProofs only[go_sem,u0,u1,u2,u3];exact congrArg _ (sh ())
    clear sh w0 w1 w2 w3;have Pe:=Zk2 ();clear Zk2;rintro F _ ⟨rfl,f1,f2,f4,f8,f9⟩;by_cases hb:1073741824<=n
    .rw[if_pos hb]at Pe;have JU:(1073741824:Int)<=(n:Int):=by clear Pe;omega
     simp -implicitDefEqProofs only[go_sem,f1,f2,f4,f8,f9,JU,wz1,z1];exact⟨⟨_,_,by rw[Pe];rfl,⟨_,rfl,YB.nil _ _ _⟩,YB.nil _ _ _⟩,hBz _ WC⟩
    .rw[if_neg hb]at Pe;have JU:¬(1073741824:Int)<=(n:Int):=by clear Pe;omega
     have rC:rd g1 ⟨h.size,0,R⟩ 11=M (Yc (A p (y kl) c) Z2 Z5 s):=ZA x0 TB;simp -implicitDefEqProofs only[go_sem,f1,f2,f4,f8,f9,JU,rC];refine (Zgy T _ _ Z2 Z5 s n hs t0 t1 (by clear Pe;omega)).use ?_;rintro _ g2 ⟨rfl,b2⟩;have x02:=b2.get (Nat.lt_of_succ_lt z1) x0;have x12:=b2.get z1 x1;have z2:=b2.size;have Py:=WC.trans (b2.mono WC.size);have wz2:=wz g2 x12;have zl2:=Za x12;by_cases xH:aD Z5 s n=true
     .rw[if_pos xH]at Pe;simp -implicitDefEqProofs only[go_sem,f1,f2,f4,f8,f9,xH,wz2,zl2];exact⟨⟨_,_,by rw[Pe];rfl,⟨_,rfl,YB.nil _ _ _⟩,YB.nil _ _ _⟩,hBz _ Py⟩
     .rw[if_neg xH]at Pe;have Zcr:=xE xH;have Zk3:aD Z5 s n=false:=by simpa using xH
      have y0:V.hc g2 ⟨h.size,0,R⟩=M (A p (y kl) c):=by rw[Zn x02];rfl
      have zl0:=Za x02;have l4:(XJ n).length=4:=rfl;have l12:(Qk (XJ n)).length<=1000:=by simp[Qk,XJ]
      have sbk:=OK sp rfl (k:=4) (by omega) cu (d-4);have Ztg:(4:Int)<=(y rc):=by clear Pe;omega
      simp -implicitDefEqProofs only[go_sem,f1,f2,f4,f8,f9,Zk3];refine VS.z (g2.size) [] (.p 0 (.q 1 (.p 2 (.p 4 (.p 5 (.p 6 (.s 3 (.s 7 (.p 8 (.p 9 (.p 10 (.p 11 (.p 12 .nil))))))))))))) mixed (by kernel_rfl) ?_;simp -implicitDefEqProofs only[go_sem,f1,f2,f4,f8,f9,y0,zl0,Ztg,Wj];refine (Lg T _ _ _ (s4.YJ Py) (by rw[l4];decide)).use ?_;rintro vn g3 ⟨on,b3⟩;have z3:=b3.size;have b3T:Zk g2.size g2 g3=True:=eq_true b3;have hB3:=Py.trans (b3.mono Py.size);simp -implicitDefEqProofs only[go_sem,f1,f2,f4,f8,f9,b3T];refine (Zct T _ _ _ _ _ kl (Qk (XJ n)) (XJ n) (rc.drop 4) (sk.YJ hB3) on.bs (s4.YJ hB3) (sbk.YJ hB3) ck on.cap (show (y rc)-4<=d-4 by omega)).use ?_;rintro _ g4 ⟨⟨w4,rfl,o4⟩,b4⟩;have z4:=b4.size;have dM:Zk g2.size g2 g4:=b3.trans (b4.mono z3);have xz:Zk g2.size g2 g4=True:=eq_true dM;rw[<-Pe]at o4 ⊢;have x14:=dM.get zl2 x12;have x04:=dM.get zl0 x02;have kG:=Py.trans (dM.mono Py.size);have wz4:=wz g4 x14;have zl4:=Za x14;clear Pe;by_cases hE0:E=0
      .subst hE0;rw[if_pos rfl]at o4;have rC4:rd g4 ⟨h.size,0,R⟩ 11=M (Yc (A p (y kl) c) Z2 Z5 s):=ZA x04 TB;simp -implicitDefEqProofs only[go_sem,f1,f2,f4,f8,f9,xz,rC4];refine (Zcv T _ _ kl Z2 Z5 s n hs (sk.YJ kG) (by omega) t0 t1 (by omega) Zcr).use ?_;rintro _ g5 ⟨⟨w5,rfl,o5⟩,b5⟩;have x15:=b5.get zl4 x14;have z5:=b5.size;obtain⟨pw,cw,rfl,_⟩:=o5.open;have l8:(Ig Z5 s n).length=8:=Sh _ _;have IU:=YO (A pw (y kl) cw) Z2 (max Z5 ((n:Int)+1)) (Ig Z5 s n) l8;have oD:=UA (p:=pw) (n:=(y kl)) (c:=cw) Z2 (max Z5 ((n:Int)+1)) (Ig Z5 s n);have tkD:=Ji IU;have wD:=wrZ x15 IU oD;have zl5:=Za x15;rw[show Jv (Ry Z5 s 8++[(n:Int)]) (max Z5 ((n:Int)+1))=Ig Z5 s n from rfl];have o4':=o4.YJ b5 (Q _);obtain⟨C5,hC5⟩:=ZP (Yc (A pw (y kl) cw) Z2 (max Z5 ((n:Int)+1)) (Ig Z5 s n));rw[<-hC5]at IU oD tkD wD ⊢;simp -implicitDefEqProofs only[go_sem,f1,f2,f4,f8,f9,xz,wD,IU,tkD,zl5];exact⟨⟨_,_,rfl,⟨_,by rw[hC5],(o5.Yi (by omega) _).mono (by omega)⟩,(o4'.Yi (by omega) _).mono (by omega)⟩,(kG.trans (b5.mono kG.size)).Zu (by omega) _⟩
      .rw[if_neg hE0]at o4;simp -implicitDefEqProofs only[go_sem,f1,f2,f4,f8,f9,xz,hE0,wz4,zl4];exact⟨⟨_,_,rfl,⟨_,rfl,YB.nil _ _ _⟩,YB.nil _ _ _⟩,hBz _ kG⟩
 .rw[if_pos e0]at Pe;have e5:=(Lh (y kl) Z2 Z5 s).resolve_left e0;simp -implicitDefEqProofs only[go_sem,e5,wz1,z1];exact⟨⟨_,_,by rw[Pe];rfl,⟨_,rfl,YB.nil _ _ _⟩,YB.nil _ _ _⟩,hBz _ WC⟩
end Go.Proofs.YtnhfdnlcpdbjlaaGreatDoor
