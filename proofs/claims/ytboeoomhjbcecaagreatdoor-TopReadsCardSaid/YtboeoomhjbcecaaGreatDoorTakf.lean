/- Bytes padded to sixteen, lengths in eight bytes, and the tag of what is sealed, on both sides; no condition but those in the statements. -/
import Derived.Test.YtboeoomhjbcecaaGreatDoorPolg
import Derived.Test.YtboeoomhjbcecaaGreatDoorMix
import Derived.Test.YtboeoomhjbcecaaGreatDoorBytes
import Derived.Test.YtboeoomhjbcecaaGreatDoorVst
import Derived.Test.YtboeoomhjbcecaaGreatDoorW15
import Derived.Test.YtboeoomhjbcecaaGreatDoorLine
import Derived.Test.YtboeoomhjbcecaaGreatDoorW13
namespace Go.Proofs.YtboeoomhjbcecaaGreatDoor
open Go Go.V
set_option linter.unusedSimpArgs false
set_option linter.unusedVariables false
set_option maxRecDepth 100000
def iY (l:List Nat):List Nat:=l++List.replicate ((16-l.length%16)%16) 0
def DZ (n:Nat):List Nat:=(List.range 8).map fun i=>n/256 ^ i%256
def Ta (known Ji:List Nat):List Nat:=iY known++iY Ji++DZ known.length++DZ Ji.length
def QR (key Zs known Ji:List Nat):List Nat:=aA ((Xw key 0 Zs).take 32) (Ta known Ji)
theorem D0 (l:List Nat):(iY l).length=l.length+(16-l.length%16)%16:=by simp[iY]
theorem LA (l:List Nat):(iY l).length≤l.length+15:=by rw[D0];omega
theorem JT (n:Nat):(DZ n).length=8:=by simp[DZ]
theorem Gk (T:World) (h:Hp) (v:Value) (l:List Nat) (s:Bs h v l) (hl:l.length≤4000) :
  Zc Tryz.prog T 131 #[v] h fun v' h'=>Z0 h.size 5 h' v' (iY l)∧Zf h.size h h':=by
 obtain⟨p,c,rfl,Us⟩:=s.open;refine Zc.Zk (args:=[_]) Tryz.func131 rfl rfl rfl rfl ?_;simp -implicitDefEqProofs only[go_sem,↓reduceIte];refine Zv (E:=5) (B:=h.size) YD Tryz.underlying48 Wg WY WX (Z0.nil _ _ _) (Nat.le_refl _) s (by simp;omega) ?_;intro v1 h1 o1 b1 _;rw[List.nil_append]at o1;have e1:((l.length:Nat):Int).tmod 16=((l.length%16:Nat):Int):=rfl;have e2:(16:Int)-((l.length%16:Nat):Int)=((16-l.length%16:Nat):Int):=by omega
 have e3:((16-l.length%16:Nat):Int).tmod 16=(((16-l.length%16)%16:Nat):Int):=rfl;simp -implicitDefEqProofs only[go_sem,↓reduceIte,e1,e2,e3];refine Kq (E:=5) (B:=h.size) YD Tryz.underlying3 Wg WY WX o1 b1.size (by omega) ?_;intro v2 h2 o2 b2 _;simp -implicitDefEqProofs only[go_sem,↓reduceIte];exact⟨o2,b1.trans b2⟩
theorem Gl (T:World) (h:Hp) (n:Nat) (hn:n<9223372036854775808) :
  Zc Tryz.prog T 132 #[.int .i64 n] h fun v' h'=>Z0 h.size 5 h' v' (DZ n)∧Zf h.size h h':=by
 refine Zc.Zk (args:=[_]) Tryz.func132 rfl rfl rfl rfl ?_;simp -implicitDefEqProofs only[go_sem,↓reduceIte];refine VS.ZW (fun F g=>Zf h.size h g∧F 0=.int .i64 n∧∃j:Nat,j≤8∧F 4=.int .i64 (8*j:Nat)∧Z0 h.size 5 g (F 3) ((DZ n).take j))
  (fun F _=>64-(vi (F 4)).toNat) rfl ⟨Zf.refl _ _,rfl,0,by omega,rfl,Z0.nil _ _ _⟩ ?_
 rintro F g ⟨hg,f0,j,hj,f4,ho⟩;have T7:=hg.size;by_cases ZD:j<8
 ·have ZL:((8*j:Nat):Int)<64:=by omega
  have e1:YV .i64 (n:Int) ((8*j:Nat):Int)=((n/256 ^ j:Nat):Int):=by
   rw[SX .i64 n (8*j) (by show 8*j≤64;omega),Nat.shiftRight_eq_div_pow,Nat.pow_mul]
  have e2:((n/256 ^ j:Nat):Int)%256=((n/256 ^ j%256:Nat):Int):=rfl;have e3:¬((8*j:Nat):Int)<0:=by omega
  have e4:((8*j:Nat):Int)+8=((8*(j+1):Nat):Int):=by omega
  simp -implicitDefEqProofs only[go_sem,↓reduceIte,f0,f4,ZL,e1,e2,e3];have hX:n/256 ^ j%256<256:=Nat.mod_lt _ (by decide);refine Zv (E:=5) (B:=h.size) YD Tryz.underlying48 Wg WY WX (ho.push _) (by simp;omega) (Bs.one hX 1) (by simp[JT];omega) ?_;intro v' h' R7 XH _;simp -implicitDefEqProofs only[go_sem,↓reduceIte,f0,f4,e4];refine⟨⟨(hg.Yi T7 _).trans XH,f0,j+1,ZD,rfl,?_⟩,?_⟩
  ·rw[Yl _ j (by rw[JT];exact ZD)];have e:(DZ n)[j]'(by rw[JT];exact ZD)=n/256 ^ j%256:=by simp[DZ]
   rw[e];exact R7
  ·simp only[vi,Zi,↓reduceIte,f4];omega
 ·have YJ:¬((8*j:Nat):Int)<64:=by omega
  obtain rfl:j=8:=by omega
  rw[List.take_of_length_le (by rw[JT];exact Nat.le_refl _)]at ho;simp -implicitDefEqProofs only[go_sem,↓reduceIte,f0,f4,YJ];exact⟨ho,hg⟩
theorem RO {key Zs:List Nat} {k:Int} (hk:key.length=32) (hn:Zs.length=12) (h0:0≤k) (h1:k≤1073741824):XN key k Zs=0:=by
 unfold XN;rw[if_neg (by omega),if_neg (by omega)]
theorem Hr (key:List Nat) (k:Nat) (Zs:List Nat):(Xw key k Zs).length=64:=by simp[Xw,Hj]
theorem D1 {known Ji:List Nat} (hk:known.length≤256) (hs:Ji.length≤2000):(Ta known Ji).length≤2400:=by
 unfold Ta;have h1:=LA known;have h2:=LA Ji;simp only[List.length_append,JT];omega
theorem D2 {key data:List Nat} (hk:key.length=32) (hd:data.length≤4000):Vu key data=0:=by
 unfold Vu;rw[if_neg (by omega)]
set_option maxHeartbeats 1000000 in
theorem MB (T:World) (h:Hp) (v u kn sv:Value) (key Zs known Ji:List Nat) (sk:Bs h v key) (sn:Bs h u Zs) (sw:Bs h kn known) (ss:Bs h sv Ji) (hk:key.length=32) (hn:Zs.length=12) (hw:known.length≤256) (hs:Ji.length≤2000) (ck:VR v) (cn:VR u) :
  Zc Tryz.prog T 114 #[v,u,kn,sv] h fun v' h'=>Z0 h.size 5 h' v' (QR key Zs known Ji)∧Zf h.size h h':=by
 obtain⟨pw,cw,rfl,_⟩:=sw.open;obtain⟨ps,cs,rfl,_⟩:=ss.open;refine Zc.Zk (args:=[_,_,_,_]) Tryz.func114 rfl rfl rfl rfl ?_;simp -implicitDefEqProofs only[go_sem,↓reduceIte];refine (oE T _ _ _ key Zs 0 sk sn ck cn).use ?_;rintro _ h1 ⟨⟨w1,rfl,o1⟩,b1⟩;have e0:=RO (k:=0) hk hn (by decide) (by decide);rw[e0,if_pos rfl]at o1;rw[e0];have o1:Z0 h.size 5 h1 w1 (Xw key 0 Zs):=o1;have z1:=b1.size;simp -implicitDefEqProofs only[go_sem,↓reduceIte];refine (Gk T _ _ known (sw.Z2 b1) (by omega)).use ?_;rintro v2 h2 ⟨o2,b2⟩;have z2:=b2.size;have B2:=b1.trans (b2.mono z1);simp -implicitDefEqProofs only[go_sem,↓reduceIte];refine (Gk T _ _ Ji (ss.Z2 B2) (by omega)).use ?_;rintro v3 h3 ⟨o3,b3⟩;have z3:=b3.size;have B3:=B2.trans (b3.mono (by omega));have l1:=LA known;have l2:=LA Ji;simp -implicitDefEqProofs only[go_sem,↓reduceIte];refine Zv (E:=5) (B:=h1.size) YD Tryz.underlying48 Wg WY WX (o2.Z2 b3 (Nat.le_refl _)) (by omega) o3.bs (by omega) ?_;intro v4 h4 o4 b4 _;have z4:=b4.size;simp -implicitDefEqProofs only[go_sem,↓reduceIte];refine (Gl T _ known.length (by omega)).use ?_;rintro v5 h5 ⟨o5,b5⟩;have z5:=b5.size;simp -implicitDefEqProofs only[go_sem,↓reduceIte];refine Zv (E:=5) (B:=h1.size) YD Tryz.underlying48 Wg WY WX (o4.Z2 b5 (Nat.le_refl _)) (by omega) o5.bs (by simp only[List.length_append,JT];omega) ?_;intro v6 h6 o6 b6 _;have z6:=b6.size;simp -implicitDefEqProofs only[go_sem,↓reduceIte];refine (Gl T _ Ji.length (by omega)).use ?_;rintro v7 h7 ⟨o7,b7⟩;have z7:=b7.size;simp -implicitDefEqProofs only[go_sem,↓reduceIte];refine Zv (E:=5) (B:=h1.size) YD Tryz.underlying48 Wg WY WX (o6.Z2 b7 (Nat.le_refl _)) (by omega) o7.bs (by simp only[List.length_append,JT];omega) ?_;intro v8 h8 o8 b8 _;have z8:=b8.size;have o8:Z0 h1.size 5 h8 v8 (Ta known Ji):=o8;have B8:Zf h1.size h1 h8:=(((((b2.trans (b3.mono z2)).trans b4).trans (b5.mono (by omega))).trans b6).trans (b7.mono (by omega))).trans b8;have o1':=o1.Z2 B8 (Nat.le_refl _);have hlb:=Hr key 0 Zs;obtain⟨pb,cb,rfl,GY⟩:=o1'.open;rw[hlb]at GY o1' ⊢;have s32:=Ra o1'.bs (m:=32) (by omega) cb;have c32:(32:Int)≤cb:=by omega
 have l32:((Xw key 0 Zs).take 32).length=32:=by rw[List.length_take];omega
 have hd:=D1 hw hs;simp -implicitDefEqProofs only[go_sem,↓reduceIte,c32];refine (DY T _ _ _ ((Xw key 0 Zs).take 32) (Ta known Ji) s32 o8.bs (show 32≤cb by omega) o8.cap).use ?_;rintro _ h9 ⟨⟨w9,rfl,o9⟩,b9⟩;have e9:=D2 (data:=Ta known Ji) l32 (by omega);rw[e9,if_pos rfl]at o9;rw[e9];simp -implicitDefEqProofs only[go_sem,↓reduceIte];exact⟨o9.mono (by omega),(b1.trans (B8.mono z1)).trans (b9.mono (by omega))⟩
def Jj (k n w m Xx:Nat):Int:=if k≠32∨n≠12∨256<w∨Xx<m then 1 else 0
theorem OI {k n w m Xx:Nat} (e:Jj k n w m Xx=0):k=32∧n=12∧w≤256∧m≤Xx:=by
 unfold Jj at e;split at e
 ·cases e
 ·omega
theorem MC {k n w m Xx:Nat} (e:¬Jj k n w m Xx=0):Jj k n w m Xx=1:=by
 unfold Jj at e ⊢;split
 ·rfl
 ·rename_i h;rw[if_neg h]at e;exact (e rfl).elim
theorem OJ (T:World) (h:Hp) (p q r s:Option Addr) (k n w m c1 c2 c3 c4 Xx:Nat) :
  Zc Tryz.prog T 112 #[.slice p k c1,.slice q n c2,.slice r w c3,.slice s m c4,.int .i64 Xx] h fun v' h'=>v'=.int .i64 (Jj k n w m Xx)∧h'=h:=by
 refine Zc.Zk (args:=[_,_,_,_,_]) Tryz.func112 rfl rfl rfl rfl ?_;unfold Jj;by_cases q0:k=32
 ·
  by_cases q1:n=12
  ·
   by_cases q2:w≤256
   ·
    by_cases q3:m≤Xx
    ·
     have c0:(k:Int)=32∨¬(k:Int)=32:=by omega
     have c1:(n:Int)=12∨¬(n:Int)=12:=by omega
     have c2:256<(w:Int)∨¬256<(w:Int):=by omega
     have c3:(Xx:Int)<(m:Int)∨¬(Xx:Int)<(m:Int):=by omega
     rcases c0 with c0|c0<;>rcases c1 with c1|c1<;>rcases c2 with c2|c2<;>rcases c3 with c3|c3<;>first
      | (exfalso;omega)
      | (rw[if_neg (by omega)];simp -implicitDefEqProofs only[go_sem,↓reduceIte,c0,c1,c2,c3])
      | (rw[if_pos (by omega)];simp -implicitDefEqProofs only[go_sem,↓reduceIte,c0,c1,c2,c3])
    ·
     have c0:(k:Int)=32∨¬(k:Int)=32:=by omega
     have c1:(n:Int)=12∨¬(n:Int)=12:=by omega
     have c2:256<(w:Int)∨¬256<(w:Int):=by omega
     have c3:(Xx:Int)<(m:Int)∨¬(Xx:Int)<(m:Int):=by omega
     rcases c0 with c0|c0<;>rcases c1 with c1|c1<;>rcases c2 with c2|c2<;>rcases c3 with c3|c3<;>first
      | (exfalso;omega)
      | (rw[if_neg (by omega)];simp -implicitDefEqProofs only[go_sem,↓reduceIte,c0,c1,c2,c3])
      | (rw[if_pos (by omega)];simp -implicitDefEqProofs only[go_sem,↓reduceIte,c0,c1,c2,c3])
   ·
    have c0:(k:Int)=32∨¬(k:Int)=32:=by omega
    have c1:(n:Int)=12∨¬(n:Int)=12:=by omega
    have c2:256<(w:Int)∨¬256<(w:Int):=by omega
    have c3:(Xx:Int)<(m:Int)∨¬(Xx:Int)<(m:Int):=by omega
    rcases c0 with c0|c0<;>rcases c1 with c1|c1<;>rcases c2 with c2|c2<;>rcases c3 with c3|c3<;>first
     | (exfalso;omega)
     | (rw[if_neg (by omega)];simp -implicitDefEqProofs only[go_sem,↓reduceIte,c0,c1,c2,c3])
     | (rw[if_pos (by omega)];simp -implicitDefEqProofs only[go_sem,↓reduceIte,c0,c1,c2,c3])
  ·
   have c0:(k:Int)=32∨¬(k:Int)=32:=by omega
   have c1:(n:Int)=12∨¬(n:Int)=12:=by omega
   have c2:256<(w:Int)∨¬256<(w:Int):=by omega
   have c3:(Xx:Int)<(m:Int)∨¬(Xx:Int)<(m:Int):=by omega
   rcases c0 with c0|c0<;>rcases c1 with c1|c1<;>rcases c2 with c2|c2<;>rcases c3 with c3|c3<;>first
    | (exfalso;omega)
    | (rw[if_neg (by omega)];simp -implicitDefEqProofs only[go_sem,↓reduceIte,c0,c1,c2,c3])
    | (rw[if_pos (by omega)];simp -implicitDefEqProofs only[go_sem,↓reduceIte,c0,c1,c2,c3])
 ·
  have c0:(k:Int)=32∨¬(k:Int)=32:=by omega
  have c1:(n:Int)=12∨¬(n:Int)=12:=by omega
  have c2:256<(w:Int)∨¬256<(w:Int):=by omega
  have c3:(Xx:Int)<(m:Int)∨¬(Xx:Int)<(m:Int):=by omega
  rcases c0 with c0|c0<;>rcases c1 with c1|c1<;>rcases c2 with c2|c2<;>rcases c3 with c3|c3<;>first
   | (exfalso;omega)
   | (rw[if_neg (by omega)];simp -implicitDefEqProofs only[go_sem,↓reduceIte,c0,c1,c2,c3])
   | (rw[if_pos (by omega)];simp -implicitDefEqProofs only[go_sem,↓reduceIte,c0,c1,c2,c3])
def Gm (key Zs known plain:List Nat):List Nat:=Oz key 1 Zs plain++QR key Zs known (Oz key 1 Zs plain)
def dY (B:Nat) (h':Hp) (v':Value) (key Zs known plain:List Nat):Prop:=∃w,v'=.tuple [w,.int .i64 (Jj key.length Zs.length known.length plain.length 2000)].toArray∧Z0 B 5 h' w (if Jj key.length Zs.length known.length plain.length 2000=0 then Gm key Zs known plain else [])
theorem MD {key Zs:List Nat} {k:Int} {n:Nat} (hk:key.length=32) (hn:Zs.length=12) (h0:0≤k) (h1:k≤1073741824) (hm:n≤2000):Vp key k Zs n=0:=by
 unfold Vp;rw[RO hk hn h0 h1,if_neg (by simp),if_neg (by omega)]
theorem LB (key data:List Nat):(aA key data).length≤16:=by rw[DQ];exact Nat.le_refl _
theorem vN (T:World) (h:Hp) (v u kn sv:Value) (key Zs known plain:List Nat) (sk:Bs h v key) (sn:Bs h u Zs) (sw:Bs h kn known) (ss:Bs h sv plain) (ck:VR v) (cn:VR u) :
  Zc Tryz.prog T 82 #[v,u,kn,sv] h fun v' h'=>dY h.size h' v' key Zs known plain∧Zf h.size h h':=by
 obtain⟨p,c,rfl,_⟩:=sk.open;obtain⟨q,d,rfl,_⟩:=sn.open;obtain⟨pw,cw,rfl,_⟩:=sw.open;obtain⟨ps,cs,rfl,_⟩:=ss.open;refine Zc.Zk (args:=[_,_,_,_]) Tryz.func82 rfl rfl rfl rfl ?_;unfold dY;simp -implicitDefEqProofs only[go_sem,↓reduceIte];refine (OJ T _ _ _ _ _ _ _ _ _ _ _ _ _ 2000).pure ?_;by_cases e:Jj key.length Zs.length known.length plain.length 2000=0
 ·obtain⟨hk,hn,hw,hs⟩:=OI e;rw[e,if_pos rfl];simp -implicitDefEqProofs only[go_sem,↓reduceIte,e];refine (oK T _ _ _ _ key Zs plain 1 sk sn ss ck cn).use ?_;rintro _ h1 ⟨⟨w1,rfl,o1⟩,b1⟩;have e1:=MD (k:=1) hk hn (by decide) (by decide) hs;rw[e1,if_pos rfl]at o1;rw[e1];have o1:Z0 h.size 5 h1 w1 (Oz key 1 Zs plain):=o1;have z1:=b1.size;have l1:=Vc key 1 Zs plain;simp -implicitDefEqProofs only[go_sem,↓reduceIte];refine (MB T _ _ _ _ _ key Zs known (Oz key 1 Zs plain) (sk.Z2 b1) (sn.Z2 b1) (sw.Z2 b1) o1.bs hk hn hw (by omega) ck cn).use ?_;rintro v2 h2 ⟨o2,b2⟩;have l2:(QR key Zs known (Oz key 1 Zs plain)).length≤16:=LB _ _;have z2:=b2.size;simp -implicitDefEqProofs only[go_sem,↓reduceIte];refine Zv (E:=5) (B:=h.size) YD Tryz.underlying48 Wg WY WX (o1.Z2 b2 (Nat.le_refl _)) (by omega) o2.bs (by omega) ?_;intro v3 h3 o3 b3 _;simp -implicitDefEqProofs only[go_sem,↓reduceIte];exact⟨⟨_,rfl,o3⟩,(b1.trans (b2.mono z1)).trans b3⟩
 ·have e1:=MC e;rw[if_neg e];simp -implicitDefEqProofs only[go_sem,↓reduceIte,e1];exact⟨_,rfl,Z0.nil _ _ _⟩
theorem Gn (a:Option Addr) (c:Nat):A0 a 1 c 0=a:=by
 unfold A0;split
 ·rfl
 ·cases a with
  | none=>rfl
  | some a=>simp[Addr.add]
def OK (key Zs known data:List Nat):Int:=if Jj key.length Zs.length known.length data.length 2016≠0 then 1 else if data.length<16 then 13 else if QR key Zs known (data.take (data.length-16))≠data.drop (data.length-16) then 6 else 0
def pC (key Zs data:List Nat):List Nat:=Oz key 1 Zs (data.take (data.length-16))
def dZ (B:Nat) (h':Hp) (v':Value) (key Zs known data:List Nat):Prop:=∃w,v'=.tuple [w,.int .i64 (OK key Zs known data)].toArray∧Z0 B 5 h' w (if OK key Zs known data=0 then pC key Zs data else [])
theorem vO (T:World) (h:Hp) (v u kn sv:Value) (key Zs known data:List Nat) (sk:Bs h v key) (sn:Bs h u Zs) (sw:Bs h kn known) (ss:Bs h sv data) (ck:VR v) (cn:VR u) (cs:VR sv) :
  Zc Tryz.prog T 87 #[v,u,kn,sv] h fun v' h'=>dZ h.size h' v' key Zs known data∧Zf h.size h h':=by
 obtain⟨p,c,rfl,_⟩:=sk.open;obtain⟨q,d,rfl,_⟩:=sn.open;obtain⟨pw,cw,rfl,_⟩:=sw.open;obtain⟨ps,cd,rfl,_⟩:=ss.open;have cs:data.length≤cd:=cs;refine Zc.Zk (args:=[_,_,_,_]) Tryz.func87 rfl rfl rfl rfl ?_;unfold dZ;simp -implicitDefEqProofs only[go_sem,↓reduceIte];refine (OJ T _ _ _ _ _ _ _ _ _ _ _ _ _ 2016).pure ?_;have pD:OK key Zs known data=if Jj key.length Zs.length known.length data.length 2016≠0 then 1 else if data.length<16 then 13 else if QR key Zs known (data.take (data.length-16))≠data.drop (data.length-16) then 6 else 0:=rfl
 by_cases e:Jj key.length Zs.length known.length data.length 2016=0
 ·obtain⟨hk,hn,hw,hs⟩:=OI e;rw[if_neg (by simp[e])]at pD;by_cases h16:data.length<16
  ·rw[if_pos h16]at pD;rw[pD];have n0:(data.length:Int)-16<0:=by omega
   simp -implicitDefEqProofs only[go_sem,↓reduceIte,e,n0];exact⟨_,rfl,Z0.nil _ _ _⟩
  ·rw[if_neg h16]at pD;have n0:¬((data.length-16:Nat):Int)<0:=by omega
   have n1:(data.length:Int)-16=((data.length-16:Nat):Int):=by omega
   have sfr:=Ra ss (m:=data.length-16) (by omega) cd;have sbk:=S4 ss rfl (k:=data.length-16) (by omega) cs (cd-(data.length-16));have lfr:(data.take (data.length-16)).length=data.length-16:=by rw[List.length_take];omega
   have Zgc:((data.length-16:Nat):Int)≤cd:=by omega
   have Zou:((data.length-16:Nat):Int)≤data.length:=by omega
   simp -implicitDefEqProofs only[go_sem,↓reduceIte,e,n1,n0];refine VS.w (h.size) [] (.q 0 (.q 1 (.q 2 (.q 3 (.q 4 (.q 5 (.q 7 (.q 8 (.q 9 (.s 6 (.s 10 (.q 11 .nil)))))))))))) mixed (by kernel_rfl) ?_;simp -implicitDefEqProofs only[go_sem,↓reduceIte,Zgc,Zou,Int.toNat_natCast,Q6,Gn];refine (MB T _ _ _ _ _ key Zs known (data.take (data.length-16)) sk sn sw sfr hk hn hw (by omega) ck cn).use ?_;rintro v1 h1 ⟨o1,b1⟩;have l1:(QR key Zs known (data.take (data.length-16))).length≤16:=LB _ _;simp -implicitDefEqProofs only[go_sem,↓reduceIte,b1];refine (Fv T _ _ _ _ _ o1.bs (sbk.Z2 b1) (by omega)).pure ?_;obtain⟨S,hS⟩:=Zx (QR key Zs known (data.take (data.length-16)));rw[←hS]at pD ⊢;by_cases ht:S=data.drop (data.length-16)
   ·rw[if_neg (by simp[ht])]at pD;rw[pD,if_pos rfl];have ht':decide (S=data.drop (data.length-16))=true:=decide_eq_true ht;simp -implicitDefEqProofs only[go_sem,↓reduceIte,b1,ht',Zgc,Q6,Gn];refine (oK T _ _ _ _ key Zs (data.take (data.length-16)) 1 (sk.Z2 b1) (sn.Z2 b1) (sfr.Z2 b1) ck cn).use ?_;rintro _ h2 ⟨⟨w2,rfl,o2⟩,b2⟩;have e2:=MD (k:=1) hk hn (by decide) (by decide) (show (data.take (data.length-16)).length≤2000 by omega);rw[e2,if_pos rfl]at o2;rw[e2];have o2:Z0 h1.size 5 h2 w2 (pC key Zs data):=o2;simp -implicitDefEqProofs only[go_sem,↓reduceIte];exact⟨⟨_,rfl,o2.mono b1.size⟩,b1.trans (b2.mono b1.size)⟩
   ·rw[if_pos ht]at pD;rw[pD];have ht':decide (S=data.drop (data.length-16))=false:=decide_eq_false ht;simp -implicitDefEqProofs only[go_sem,↓reduceIte,b1,ht'];exact⟨_,rfl,Z0.nil _ _ _⟩
 ·have e1:=MC e;rw[if_pos e]at pD;rw[pD];simp -implicitDefEqProofs only[go_sem,↓reduceIte,e1];exact⟨_,rfl,Z0.nil _ _ _⟩
def Y2 (n:Nat):List Nat:=[n/16777216%256,n/65536%256,n/256%256,n%256]
theorem aL (n:Nat):∀x∈Y2 n,x<256:=by
 intro x hx;simp only[Y2,List.mem_cons,List.not_mem_nil,or_false]at hx;omega
theorem KV (n k:Nat) (hk:k≤64):YV .i64 (n:Int) (k:Int)=((n/2 ^ k:Nat):Int):=by
 rw[SX .i64 n k hk,Nat.shiftRight_eq_div_pow]
theorem D3 (T:World) (h:Hp) (n:Nat) (hn:n≤1073741824) :
  Zc Tryz.prog T 81 #[.int .i64 n] h fun v' h'=>Z0 h.size 5 h' v' (Y2 n)∧Zf h.size h h':=by
 refine Zc.Zk (args:=[_]) Tryz.func81 rfl rfl rfl rfl ?_;have e1:YV .i64 (n:Int) 24%256=((n/16777216%256:Nat):Int):=by rw[show (24:Int)=((24:Nat):Int) from rfl,KV n 24 (by omega)];omega
 have e2:YV .i64 (n:Int) 16%256=((n/65536%256:Nat):Int):=by rw[show (16:Int)=((16:Nat):Int) from rfl,KV n 16 (by omega)];omega
 have e3:YV .i64 (n:Int) 8%256=((n/256%256:Nat):Int):=by rw[show (8:Int)=((8:Nat):Int) from rfl,KV n 8 (by omega)];omega
 have e4:(n:Int)%256=((n%256:Nat):Int):=by omega
 simp -implicitDefEqProofs only[go_sem,↓reduceIte,e1,e2,e3,e4];exact Z0.made (l:=Y2 n) (aL n) (Nat.le_refl _)
def Jk (l:List Nat):List Nat:=List.replicate 8 0++l
theorem ZbQ:(X2 12 [Value.int .u8 0])=(List.replicate 12 0).map bv:=rfl
theorem OL (T:World) (h:Hp) (v:Value) (l:List Nat) (s:Bs h v l) (hl:l.length≤1000) :
  Zc Tryz.prog T 83 #[v] h fun v' h'=>Z0 h.size 5 h' v' (Jk l)∧Zf h.size h h':=by
 refine Zc.Zk (args:=[_]) Tryz.func83 rfl rfl rfl rfl ?_;simp -implicitDefEqProofs only[go_sem,↓reduceIte,ZbQ];have o1:Z0 h.size 5 (h.push (.cells ((List.replicate 12 0).map bv).toArray 5)) (.slice (some ⟨h.size,0,none⟩) 8 12) (List.replicate 8 0):=by
  refine⟨.inr ⟨h.size,12,(List.replicate 4 0).map bv,Nat.le_refl _,rfl,?_,by simp,by simp,by simp⟩,fun x hx=>by rw[List.eq_of_mem_replicate hx];decide⟩;rw[Zb,←List.map_append];rfl
 refine Zv (E:=5) (B:=h.size) YD Tryz.underlying48 Wg WY WX o1 (by simp) (s.Z2 (Zf.push (Nat.le_refl _) _)) (by simp;omega) ?_;intro v' h' R7 XH _;simp -implicitDefEqProofs only[go_sem,↓reduceIte];exact⟨R7,(Zf.push (Nat.le_refl _) _).trans XH⟩
def Vg (n:Nat) (ZK top:Int) (s:List Bool) (m:Nat):Int:=if Xs n ZK top s≠0 then 5 else if 2000<m then 1 else if ZK=1073741824 then 8 else 0
def Jl:List Bool:=[false,false,false,false,false,false,false,false]
def aM (kl:List Nat) (n:Nat) (plain:List Nat):List Nat:=Y2 n++Gm kl (Jk (Y2 n)) (Y2 n) plain
def eh (B:Nat) (h':Hp) (cw:Value) (e:Int) (kl:List Nat) (ZK top:Int) (s:List Bool):Prop:=Fx B h' cw (if e=0 then kl else []) (if e=0 then ZK else 0) (if e=0 then top else 0) (if e=0 then s else Jl)
def FT (B:Nat) (h':Hp) (v':Value) (kl:List Nat) (ZK top:Int) (s:List Bool) (plain:List Nat):Prop:=∃cw w,v'=.tuple [cw,w,.int .i64 (Vg kl.length ZK top s plain.length)].toArray ∧
 eh B h' cw (Vg kl.length ZK top s plain.length) kl (ZK+1) top s∧Z0 B 5 h' w (if Vg kl.length ZK top s plain.length=0 then aM kl ZK.toNat plain else [])
theorem OM (n:Nat) (ZK top:Int) (s:List Bool):Xs n ZK top s=0∨Xs n ZK top s=5:=by
 unfold Xs
 repeat' split
 all_goals simp
theorem ON {n:Nat} {ZK top:Int} {s:List Bool} (e:Xs n ZK top s=0):n=32∧0≤ZK∧ZK≤1073741824∧0≤top∧top≤1073741824:=by
 unfold Xs at e;split at e
 ·cases e
 ·omega
theorem wrZ {G:Hp} {b:Nat} (hx:G[b]? = some (.cells Uu.toArray 150)) {w:List Value} (h11:w.length=11) (h1:w.all Z7=true):wr G ⟨b,0,none⟩ w=some (G.setIfInBounds b (.cells w.toArray 150)):=by
 rw[ZU hx 0 w,ZJ (by rw[h11];rfl),if_pos ⟨by rw[h11];exact Nat.le_refl _,h1⟩]
set_option maxHeartbeats 1000000 in
theorem D4 (T:World) (h:Hp) (k u:Value) (kl plain:List Nat) (ZK top:Int) (s:List Bool) (hs:s.length=8) (sk:Bs h k kl) (sp:Bs h u plain) (ck:VR k) :
  Zc Tryz.prog T 58 #[.agg (ZS k ZK top s).toArray,u] h fun v' h'=>FT h.size h' v' kl ZK top s plain∧Zf h.size h h':=by
 obtain⟨p,c,rfl,_⟩:=sk.open;obtain⟨q,d,rfl,_⟩:=sp.open;have WE:=Yd (.slice p kl.length c) ZK top s hs;have tk:=YW WE;refine Zc.XM (args:=[_,_]) Tryz.func58 rfl rfl rfl rfl ?_;simp -implicitDefEqProofs only[go_sem,↓reduceIte,WE,tk];have V0:Zf h.size h ((h.push (.cells (ZS (.slice p kl.length c) ZK top s).toArray 150)).push (.cells Uu.toArray 150)):=by (repeat' (first|exact Zf.refl _ _|assumption|refine Zf.add ?_ _|refine Zf.Zm ?_ (by first|omega|(simp;omega)) _|refine Zf.trans (by assumption) ?_))
 refine (Oq T _ p kl.length c ZK top s hs).use ?_;rintro _ g1 ⟨rfl,b1⟩;have x0:g1[h.size]? = some (.cells (ZS (.slice p kl.length c) ZK top s).toArray 150):=b1.get (by simp only[Array.size_push];omega) (by simp only[Array.getElem?_push,Array.size_push,IntWalk.iteOmega,↓reduceIte]);have x1:g1[h.size+1]? = some (.cells Uu.toArray 150):=b1.get (by simp only[Array.size_push];omega) (by simp only[Array.getElem?_push,Array.size_push,IntWalk.iteOmega,↓reduceIte];rfl);have Ul:Zf h.size h g1:=V0.trans (b1.mono (by simp;omega));have z1:=Za x1;clear b1 V0;have T3:Vg kl.length ZK top s plain.length=if Xs kl.length ZK top s≠0 then 5 else if 2000<plain.length then 1 else if ZK=1073741824 then 8 else 0:=rfl
 unfold FT eh;obtain⟨E,hE⟩:=Zx (Vg kl.length ZK top s plain.length);rw[←hE]at T3 ⊢;have wz:=wrZ x1 (w:=[.slice none 0 0,.int .i64 0,.int .i64 0,.bool false,.bool false,.bool false,.bool false,.bool false,.bool false,.bool false,.bool false]) rfl rfl;have tK:Zf h.size h (g1.setIfInBounds (h.size+1) (.cells #[.slice none 0 0,.int .i64 0,.int .i64 0,.bool false,.bool false,.bool false,.bool false,.bool false,.bool false,.bool false,.bool false] 150)):=Ul.Zm (by omega) _;by_cases e0:Xs kl.length ZK top s=0
 ·obtain⟨hk,s0,s1,t0,t1⟩:=ON e0;rw[if_neg (by simp[e0])]at T3;by_cases hm:2000<plain.length
  ·rw[if_pos hm]at T3;have Ln:2000<(plain.length:Int):=by omega
   simp -implicitDefEqProofs only[go_sem,↓reduceIte,e0,Ln,wz,z1];exact⟨⟨_,_,by rw[T3];rfl,⟨_,rfl,Z0.nil _ _ _⟩,Z0.nil _ _ _⟩,tK⟩
  ·rw[if_neg hm]at T3;have Ln:¬2000<(plain.length:Int):=by omega
   have y1:V.hc g1 ⟨h.size,1,none⟩=some (.int .i64 ZK):=by rw[Zh x0];rfl
   have y0:V.hc g1 ⟨h.size,0,none⟩=some (.slice p kl.length c):=by rw[Zh x0];rfl
   by_cases hf:ZK=1073741824
   ·rw[if_pos hf]at T3;have hf':(ZK=1073741824)=True:=eq_true hf;simp -implicitDefEqProofs only[go_sem,↓reduceIte,e0,Ln,y1,hf',wz,z1];exact⟨⟨_,_,by rw[T3];rfl,⟨_,rfl,Z0.nil _ _ _⟩,Z0.nil _ _ _⟩,tK⟩
   ·rw[if_neg hf]at T3;rw[T3];obtain⟨n,rfl⟩:∃n:Nat,ZK=n:=⟨ZK.toNat,by omega⟩
    rw[Int.toNat_natCast];simp -implicitDefEqProofs only[go_sem,↓reduceIte,e0,Ln,y1,hf];refine (D3 T _ n (by omega)).use ?_;rintro vh g2 ⟨oh,b2⟩;have z2:=b2.size;have x0':=b2.get (by omega) x0;have zD:=b2.get (by omega) x1;have y0':V.hc g2 ⟨h.size,0,none⟩=some (.slice p kl.length c):=by rw[Zh x0'];rfl
    have Sa:=Ul.trans (b2.mono Ul.size);have Nw:h.size<g2.size:=by omega
    simp -implicitDefEqProofs only[go_sem,↓reduceIte];refine VS.w (g2.size) [] (.q 0 (.q 1 (.q 2 (.q 4 (.q 5 (.s 3 (.s 6 (.q 7 (.q 8 (.q 9 (.q 10 (.q 11 .nil)))))))))))) mixed (by kernel_rfl) ?_;simp -implicitDefEqProofs only[go_sem,↓reduceIte,y0',Nw];refine (OL T _ _ _ oh.bs (by simp[Y2])).use ?_;rintro vn g3 ⟨on,b3⟩;have z3:=b3.size;have b3T:Zf g2.size g2 g3=True:=eq_true b3;simp -implicitDefEqProofs only[go_sem,↓reduceIte,b3T];refine (vN T _ _ _ _ _ kl (Jk (Y2 n)) (Y2 n) plain ((sk.Z2 Sa).Z2 b3) on.bs (oh.bs.Z2 b3) ((sp.Z2 Sa).Z2 b3) ck on.cap).use ?_;rintro _ g4 ⟨⟨w4,rfl,o4⟩,b4⟩;have z4:=b4.size;have eS:Jj kl.length (Jk (Y2 n)).length (Y2 n).length plain.length 2000=0:=by
     unfold Jj Jk Y2;rw[if_neg];simp;omega
    rw[eS,if_pos rfl]at o4;rw[eS];have Bv:Zf g2.size g2 g4:=b3.trans (b4.mono z3);have pE:Zf g2.size g2 g4=True:=eq_true Bv;have Zow:=Bv.get (by omega) x0';have Zox:=Bv.get (by omega) zD;have dP:=Sa.trans (Bv.mono Sa.size);have rC:rd g4 ⟨h.size,0,none⟩ 11=some (ZS (.slice p kl.length c) n top s):=Zq Zow WE;simp -implicitDefEqProofs only[go_sem,↓reduceIte,pE,rC];refine (nR T _ _ kl n top s hs (sk.Z2 dP) (by omega)).use ?_;rintro _ g5 ⟨⟨w5,rfl,o5⟩,b5⟩;have z5:=b5.size;obtain⟨pw,cw,rfl,_⟩:=o5.open;have Zge:=b5.get (by omega) Zox;have Le:=Yd (.slice pw kl.length cw) n top s hs;have iI:=YW Le;have oD:=QC (p:=pw) (n:=kl.length) (c:=cw) n top s;have lpD:∀v,Yw [v,.int .i64 0,.int .i64 0,.bool false,.bool false,.bool false,.bool false,.bool false,.bool false,.bool false,.bool false] 0 (ZS (.slice pw kl.length cw) n top s)=ZS (.slice pw kl.length cw) n top s:=fun v=>ZJ Le;have nD:nth (ZS (.slice pw kl.length cw) n top s) 1=some (.int .i64 n):=rfl;have e1:(n:Int)+1=((n+1:Nat):Int):=rfl;have sD:(ZS (.slice pw kl.length cw) n top s).set 1 (.int .i64 ((n+1:Nat):Int))=ZS (.slice pw kl.length cw) ((n+1:Nat):Int) top s:=rfl;have Gp:=Yd (.slice pw kl.length cw) ((n+1:Nat):Int) top s hs;have Zgf:=YW Gp;have oD':=QC (p:=pw) (n:=kl.length) (c:=cw) ((n+1:Nat):Int) top s;simp -implicitDefEqProofs only[go_sem,↓reduceIte,Le,iI,oD,lpD,nD,e1,sD];have rJ:rd (g5.push (.cells (ZS (.slice pw kl.length cw) ((n+1:Nat):Int) top s).toArray 150)) ⟨g5.size,0,none⟩ 11=some (ZS (.slice pw kl.length cw) ((n+1:Nat):Int) top s):=Zq Zb Gp;have xJ:(g5.push (.cells (ZS (.slice pw kl.length cw) ((n+1:Nat):Int) top s).toArray 150))[g5.size]? = some (.cells (ZS (.slice pw kl.length cw) ((n+1:Nat):Int) top s).toArray 150):=Zb;have xZ:(g5.push (.cells (ZS (.slice pw kl.length cw) ((n+1:Nat):Int) top s).toArray 150))[h.size+1]? = some (.cells Uu.toArray 150):=by rw[Zt (by omega)];exact Zge
    have hB5:=dP.trans (b5.mono dP.size);have hBJ:Zf h.size h (g5.push (.cells (ZS (.slice pw kl.length cw) ((n+1:Nat):Int) top s).toArray 150)):=hB5.Yi hB5.size _;have ohJ:=(oh.Z2 (Bv.trans (b5.mono (by omega))) (Nat.le_refl _)).push (.cells (ZS (.slice pw kl.length cw) ((n+1:Nat):Int) top s).toArray 150);have owJ:=o5.push (.cells (ZS (.slice pw kl.length cw) ((n+1:Nat):Int) top s).toArray 150);have o4J:=(o4.Z2 b5 (Nat.le_refl _)).push (.cells (ZS (.slice pw kl.length cw) ((n+1:Nat):Int) top s).toArray 150);have zJ:(g5.push (.cells (ZS (.slice pw kl.length cw) ((n+1:Nat):Int) top s).toArray 150)).size=g5.size+1:=by simp
    have ZD:=oh.own.lt;have nx:=oh.own.ZG;have Zgg:=o5.own.ZG;have Zz4:=o5.own.lt;have lS:(Gm kl (Jk (Y2 n)) (Y2 n) plain).length≤2016:=by
     have l1:=Vc kl 1 (Jk (Y2 n)) plain;have l2:(QR kl (Jk (Y2 n)) (Y2 n) (Oz kl 1 (Jk (Y2 n)) plain)).length≤16:=LB _ _;unfold Gm;rw[List.length_append];omega
    have lh:(Y2 n).length=4:=rfl;obtain⟨J,hJ⟩:=Zx (g5.push (.cells (ZS (.slice pw kl.length cw) ((n+1:Nat):Int) top s).toArray 150));rw[←hJ]at rJ xJ xZ hBJ ohJ owJ o4J zJ ⊢;clear hJ;have key:∀v' h',Z0 g1.size 5 h' v' (Y2 n++Gm kl (Jk (Y2 n)) (Y2 n) plain)→Zf g1.size J h'→Tv (ZO vh) J h' →
      rd h' ⟨g5.size,0,none⟩ 11=some (ZS (.slice pw kl.length cw) ((n+1:Nat):Int) top s)∧wr h' ⟨h.size+1,0,none⟩ (ZS (.slice pw kl.length cw) ((n+1:Nat):Int) top s)=some (h'.setIfInBounds (h.size+1) (.cells (ZS (.slice pw kl.length cw) ((n+1:Nat):Int) top s).toArray 150)) ∧
      (Zf (h.size+1) J h'=True)∧(Zf (h.size+1) J (h'.setIfInBounds (h.size+1) (.cells (ZS (.slice pw kl.length cw) ((n+1:Nat):Int) top s).toArray 150))=True)∧h.size+1<h'.size ∧
      Z0 h.size 5 (h'.setIfInBounds (h.size+1) (.cells (ZS (.slice pw kl.length cw) ((n+1:Nat):Int) top s).toArray 150)) (.slice pw kl.length cw) kl ∧
      Z0 h.size 5 (h'.setIfInBounds (h.size+1) (.cells (ZS (.slice pw kl.length cw) ((n+1:Nat):Int) top s).toArray 150)) v' (aM kl n plain) ∧
      Zf h.size h (h'.setIfInBounds (h.size+1) (.cells (ZS (.slice pw kl.length cw) ((n+1:Nat):Int) top s).toArray 150)):=by
     intro v' h' R7 XH Pa;have xZ':=XH.get (k:=h.size+1) (by omega) xZ;have xJ':h'[g5.size]? = some (.cells (ZS (.slice pw kl.length cw) ((n+1:Nat):Int) top s).toArray 150):=by
      rw[Pa.block g5.size (by omega) (fun e=>by have:=ZD _ e;omega)];exact xJ
     have ow':=owJ.M0 Pa (fun b hb e=>by have:=Zgg b hb;have:=ZD _ e;omega);have Fh:Zf (h.size+1) J h':=XH.mono (by omega);exact⟨Zq xJ' Gp,wrZ xZ' Gp oD',eq_true Fh,eq_true (Fh.Zm (Nat.le_refl _) _),Za xZ',(ow'.ZP (by omega) _).mono (by omega),(R7.ZP (by omega) _).mono (by omega),(hBJ.trans (XH.mono (by omega))).Zm (by omega) _⟩
    refine VS.w (h.size+1) [] (.q 1 (.q 2 (.or 0 (.s 3 (.s 4 (.q 5 (.q 6 .nil)))) (.s 3 (.s 0 (.s 4 (.q 5 (.q 6 .nil)))))))) mixed (by kernel_rfl) ?_;simp -implicitDefEqProofs only[go_sem,↓reduceIte,rJ];refine⟨?_,?_⟩
    ·refine Zv (E:=5) (B:=g1.size) YD Tryz.underlying48 Wg WY WX ohJ (by omega) o4J.bs (by omega) ?_;intro v' h' R7 XH Pa;obtain⟨k1,k2,k3,k4,k5,k6,k7,k8⟩:=key v' h' R7 XH Pa;simp -implicitDefEqProofs only[go_sem,↓reduceIte,k1,k2,k3,k4,k5,Gp,Zgf];exact⟨⟨_,_,rfl,⟨_,rfl,k6⟩,k7⟩,k8⟩
    ·refine Zv (E:=5) (B:=g1.size) YD Tryz.underlying48 Wg WY WX ohJ (by omega) o4J.bs (by omega) ?_;intro v' h' R7 XH Pa;obtain⟨k1,k2,k3,k4,k5,k6,k7,k8⟩:=key v' h' R7 XH Pa;simp -implicitDefEqProofs only[go_sem,↓reduceIte,k1,k2,k3,k4,k5,Gp,Zgf];exact⟨⟨_,_,rfl,⟨_,rfl,k6⟩,k7⟩,k8⟩
 ·rw[if_pos e0]at T3;have e5:=(OM kl.length ZK top s).resolve_left e0;simp -implicitDefEqProofs only[go_sem,↓reduceIte,e5,wz,z1];exact⟨⟨_,_,by rw[T3];rfl,⟨_,rfl,Z0.nil _ _ _⟩,Z0.nil _ _ _⟩,tK⟩
def D5 (top:Int) (s:List Bool) (n:Nat):Bool:=decide ((n:Int)<top-8)||(decide ((n:Int)<top)&&s.getD ((n:Int)-(top-8)).toNat false)
theorem ZbR (T:World) (h:Hp) (k:Value) (ZK top:Int) (s:List Bool) (n:Nat) (hs:s.length=8) (t0:0≤top) (t1:top≤1073741824) (hn:n<1073741824) :
  Zc Tryz.prog T 86 #[.agg (ZS k ZK top s).toArray,.int .i64 n] h fun v' h'=>v'=.bool (D5 top s n)∧Zf h.size h h':=by
 have WE:=Yd k ZK top s hs;have tk:=YW WE;have n2:nth (ZS k ZK top s) 2=some (.int .i64 top):=rfl;refine Zc.Zk (args:=[_,_]) Tryz.func86 rfl rfl rfl rfl ?_;unfold D5;by_cases q1:(n:Int)<top-8
 ·have d1:decide ((n:Int)<top-8)=true:=decide_eq_true q1;simp -implicitDefEqProofs only[go_sem,↓reduceIte,WE,tk,n2,q1,d1,Bool.true_or]
 ·have d1:decide ((n:Int)<top-8)=false:=decide_eq_false q1;by_cases q2:(n:Int)<top
  ·have d2:decide ((n:Int)<top)=true:=decide_eq_true q2;obtain⟨i,hi⟩:∃i:Nat,(n:Int)-(top-8)=i:=⟨((n:Int)-(top-8)).toNat,by omega⟩
   have hi8:i<8:=by omega
   have ZoB:(i:Int)<8:=by omega
   have n3:nth (ZS k ZK top s) (3+i)=some (.bool (s.getD i false)):=by
    have:=SZ s i (by omega);rw[Yh]at this ⊢;rw[←this];show (k :: .int .i64 ZK :: .int .i64 top :: s.map Value.bool)[3+i]? = _;rw[Nat.add_comm];rfl
   simp -implicitDefEqProofs only[go_sem,↓reduceIte,WE,tk,n2,q1,q2,d1,d2,hi,ZoB,Int.toNat_natCast,n3,Bool.false_or]
  ·have d2:decide ((n:Int)<top)=false:=decide_eq_false q2;simp -implicitDefEqProofs only[go_sem,↓reduceIte,WE,tk,n2,q1,q2,d1,d2,Bool.false_or]
theorem aN (k:Value) (ZK top:Int) (s t:List Bool) (hs:s.length=8) (ht:t.length=8):Yw (ZS k ZK top s) 3 (t.map Value.bool)=ZS k ZK top t:=by
 have:=U9 [k,.int .i64 ZK,.int .i64 top] (s.map Value.bool) (t.map Value.bool);rw[ZJ (by simp[hs,ht])]at this;exact this
set_option maxHeartbeats 1000000 in
theorem vP (T:World) (h:Hp) (k:Value) (kl:List Nat) (ZK top:Int) (s:List Bool) (n:Nat) (hs:s.length=8) (sk:Bs h k kl) (hk:kl.length≤140737488355328) (t0:0≤top) (t1:top≤1073741824) (hn:n<1073741824) (hm:¬(n:Int)<top-8) :
  Zc Tryz.prog T 88 #[.agg (ZS k ZK top s).toArray,.int .i64 n] h fun v' h'=>Fx h.size h' v' kl ZK (max top (n+1)) (XC (TD top s 8++[(n:Int)]) (max top (n+1)))∧Zf h.size h h':=by
 obtain⟨p,c,rfl,_⟩:=sk.open;have WE:=Yd (.slice p kl.length c) ZK top s hs;have tk:=YW WE;refine Zc.XM (args:=[_,_]) Tryz.func88 rfl rfl rfl rfl ?_;simp -implicitDefEqProofs only[go_sem,↓reduceIte,WE,tk];have V0:Zf h.size h ((h.push (.cells (ZS (.slice p kl.length c) ZK top s).toArray 150)).push (.cells Uu.toArray 150)):=by (repeat' (first|exact Zf.refl _ _|assumption|refine Zf.add ?_ _|refine Zf.Zm ?_ (by first|omega|(simp;omega)) _|refine Zf.trans (by assumption) ?_))
 refine (nR T _ _ kl ZK top s hs (sk.Z2 V0) hk).use ?_;rintro _ g1 ⟨⟨w,rfl,o1⟩,b1⟩;have x0:g1[h.size]? = some (.cells (ZS (.slice p kl.length c) ZK top s).toArray 150):=b1.get (by simp only[Array.size_push];omega) (by simp only[Array.getElem?_push,Array.size_push,IntWalk.iteOmega,↓reduceIte]);have x1:g1[h.size+1]? = some (.cells Uu.toArray 150):=b1.get (by simp only[Array.size_push];omega) (by simp only[Array.getElem?_push,Array.size_push,IntWalk.iteOmega,↓reduceIte]<;>rfl);have Ul:Zf h.size h g1:=V0.trans (b1.mono (by simp;omega));have z1:=Za x1;simp only[Array.size_push]at o1;obtain⟨pw,cw,rfl,_⟩:=o1.open;clear b1 V0;have y2:V.hc g1 ⟨h.size,2,none⟩=some (.int .i64 top):=by rw[Zh x0];rfl
 have Le:=Yd (.slice pw kl.length cw) ZK top s hs;have iI:=YW Le;have oD:=QC (p:=pw) (n:=kl.length) (c:=cw) ZK top s;have lpD:∀v,Yw [v,.int .i64 0,.int .i64 0,.bool false,.bool false,.bool false,.bool false,.bool false,.bool false,.bool false,.bool false] 0 (ZS (.slice pw kl.length cw) ZK top s)=ZS (.slice pw kl.length cw) ZK top s:=fun v=>ZJ Le;have e1:(n:Int)+1=((n+1:Nat):Int):=rfl;obtain⟨TP,hTP⟩:∃TP:Int,TP=max top (n+1):=⟨_,rfl⟩
 have nA:(if ((n+1:Nat):Int)>top then ((n+1:Nat):Int) else top)=TP:=by rw[hTP];split<;>omega
 have sD:(ZS (.slice pw kl.length cw) ZK top s).set 2 (.int .i64 TP)=ZS (.slice pw kl.length cw) ZK TP s:=rfl;have ZoC:=Yd (.slice pw kl.length cw) ZK TP s hs;have lE:Yw (ZS (.slice pw kl.length cw) ZK TP s) 3 [.bool false,.bool false,.bool false,.bool false,.bool false,.bool false,.bool false,.bool false]=ZS (.slice pw kl.length cw) ZK TP (XC (TD top s 0) TP):=aN (.slice pw kl.length cw) ZK TP s Jl hs rfl;have y0r:rd g1 ⟨h.size,3,none⟩ 8=some (s.map Value.bool):=by
  have TU:(s.map Value.bool).length=8:=by rw[List.length_map,hs]
  have:=Z9 x0 (o:=3) (n:=8) (by rw[WE];omega);rw[this];have e:(ZS (.slice p kl.length c) ZK top s).drop 3=s.map Value.bool:=rfl;rw[e,YW TU]
 rw[←hTP];simp -implicitDefEqProofs only[go_sem,↓reduceIte,Le,iI,oD,lpD,y2,e1,nA,sD,ZoC,lE,y0r];obtain⟨bo,hbo⟩:∃b,b=g1.size:=⟨_,rfl⟩
 obtain⟨J,hJ⟩:=Zx (g1.push (.cells (ZS (.slice pw kl.length cw) ZK TP (XC (TD top s 0) TP)).toArray 150));have J5:J[bo]? = some (.cells (ZS (.slice pw kl.length cw) ZK TP (XC (TD top s 0) TP)).toArray 150):=by rw[hJ,hbo];exact Zb
 have J0:J[h.size]? = some (.cells (ZS (.slice p kl.length c) ZK top s).toArray 150):=by rw[hJ,Zt (by omega)];exact x0
 have J1:J[h.size+1]? = some (.cells Uu.toArray 150):=by rw[hJ,Zt (by omega)];exact x1
 have JB:Zf h.size h J:=by rw[hJ];exact Ul.Yi Ul.size _
 have Jo:Z0 (h.size+1+1) 5 J (.slice pw kl.length cw) kl:=by rw[hJ];exact o1.push _
 have Jlt:∀b,ZO (.slice pw kl.length cw)=some b→b<bo:=fun b hb=>by have:=o1.own.lt b hb;omega
 have Jsz:J.size=bo+1:=by rw[hJ,Array.size_push,hbo]
 rw[←hJ,←hbo];clear hJ;refine VS.ZW (fun F g=>F 1=.int .i64 n∧F 2=.pointer (some ⟨h.size,0,none⟩)∧F 4=.pointer (some ⟨h.size+1,0,none⟩)∧F 5=.pointer (some ⟨bo,0,none⟩)∧F 20=.agg (s.map Value.bool).toArray∧∃i:Nat,i≤8∧F 21=.int .i64 i∧g=J.setIfInBounds bo (.cells (ZS (.slice pw kl.length cw) ZK TP (XC (TD top s i) TP)).toArray 150))
  (fun F _=>8-(vi (F 21)).toNat) rfl ⟨rfl,rfl,rfl,rfl,rfl,0,by omega,rfl,(Uv J5).symm⟩ ?_
 rintro F g ⟨f1,f2,f4,f5,f20,i,hi,f21,rfl⟩;have hx:=ZT (o:=.cells (ZS (.slice pw kl.length cw) ZK TP (XC (TD top s i) TP)).toArray 150) J5;have S6:(J.setIfInBounds bo (.cells (ZS (.slice pw kl.length cw) ZK TP (XC (TD top s i) TP)).toArray 150))[h.size]? = some (.cells (ZS (.slice p kl.length c) ZK top s).toArray 150):=by rw[Array.getElem?_setIfInBounds,if_neg (by omega)];exact J0
 have sl8:=Vm (TD top s i) TP;have YX:=hU top s i;obtain⟨SS,hSS⟩:=Zx (XC (TD top s i) TP);by_cases ZD:i<8
 ·have ZL:(i:Int)<8:=by omega
  rw[←hSS]at hx S6 sl8 ⊢;obtain⟨G,hG⟩:=Zx (J.setIfInBounds bo (.cells (ZS (.slice pw kl.length cw) ZK TP SS).toArray 150));rw[←hG]at hx S6 ⊢;have n1:=SZ s i (by omega);have y2:V.hc G ⟨h.size,2,none⟩=some (.int .i64 top):=by rw[Zh S6];rfl
  have y5:V.hc G ⟨bo,2,none⟩=some (.int .i64 TP):=by rw[Zh hx];rfl
  obtain⟨b,hb⟩:=Zx (s.getD i false);rw[←hb]at n1 YX
  cases b with
  | false=>
   rw[if_neg (by decide),List.append_nil]at YX;simp -implicitDefEqProofs only[go_sem,↓reduceIte,f1,f2,f4,f5,f20,f21,ZL,Int.toNat_natCast,n1,y2,y5];refine⟨⟨f1,f2,f4,f5,f20,i+1,ZD,rfl,?_⟩,?_⟩
   ·rw[YX,hG,hSS]
   ·simp only[vi,Zi,↓reduceIte,f21];omega
  | true=>
   rw[if_pos rfl]at YX;have aC:=Mt (TD top s i) TP (top-8+(i:Int)) (by omega);rw[←YX,←hSS]at aC;have ex:top-8+(i:Int)-TP+8=top+(i:Int)-TP:=by omega
   rw[ex]at aC;by_cases hk0:0≤top+(i:Int)-TP
   ·rw[if_pos hk0]at aC;obtain⟨j,hj⟩:∃j:Nat,top+(i:Int)-TP=j:=⟨(top+(i:Int)-TP).toNat,by omega⟩
    rw[hj,Int.toNat_natCast]at aC;have hj8:(j:Int)<8:=by omega
    have hj0:(0:Int)≤(j:Int):=by omega
    have Zz9:j<8:=by omega
    have hlen:=Yd (.slice pw kl.length cw) ZK TP SS sl8;have w1:JJ G ⟨bo,3+j,none⟩ (.bool true)=some (G.setIfInBounds bo (.cells (ZS (.slice pw kl.length cw) ZK TP (SS.set j true)).toArray 150)):=by
     rw[YC hx,if_pos ⟨by rw[hlen];omega,rfl⟩,Dr]
    simp -implicitDefEqProofs only[go_sem,↓reduceIte,f1,f2,f4,f5,f20,f21,ZL,Int.toNat_natCast,n1,y2,y5,hj,hj0,hj8,w1];refine⟨⟨f1,f2,f4,f5,f20,i+1,ZD,rfl,?_⟩,?_⟩
    ·rw[aC,hG,set_set]
    ·simp only[vi,Zi,↓reduceIte,f21];omega
   ·rw[if_neg hk0]at aC;simp -implicitDefEqProofs only[go_sem,↓reduceIte,f1,f2,f4,f5,f20,f21,ZL,Int.toNat_natCast,n1,y2,y5,hk0];refine⟨⟨f1,f2,f4,f5,f20,i+1,ZD,rfl,?_⟩,?_⟩
    ·rw[aC,hG]
    ·simp only[vi,Zi,↓reduceIte,f21];omega
 ·have YJ:¬(i:Int)<8:=by omega
  obtain rfl:i=8:=by omega
  have c8:((8:Nat):Int)=8:=rfl;rw[c8]at f21 YJ;have aC:=Mt (TD top s 8) TP (n:Int) (by omega);rw[if_pos (by omega),←hSS]at aC;have QL:(J.setIfInBounds bo (.cells (ZS (.slice pw kl.length cw) ZK TP (XC (TD top s 8) TP)).toArray 150))[h.size+1]? = some (.cells Uu.toArray 150):=by rw[Array.getElem?_setIfInBounds,if_neg (by omega)];exact J1
  have HB:=JB.Zm (b:=bo) (by omega) (.cells (ZS (.slice pw kl.length cw) ZK TP (XC (TD top s 8) TP)).toArray 150);have HO:Z0 (h.size+1+1) 5 (J.setIfInBounds bo (.cells (ZS (.slice pw kl.length cw) ZK TP (XC (TD top s 8) TP)).toArray 150)) (.slice pw kl.length cw) kl:=
   Jo.M0 (x:=some bo) ⟨by simp,fun b hb YA=>by rw[Array.getElem?_setIfInBounds,if_neg (fun e=>YA (by rw[e]))]⟩ (fun b hb e=>by have:=Jlt b hb;simp at e;omega)
  rw[←hSS]at hx QL HB HO sl8 ⊢;obtain⟨j,hj⟩:∃j:Nat,(n:Int)-(TP-8)=j:=⟨((n:Int)-(TP-8)).toNat,by omega⟩
  have hj2:(n:Int)-TP+8=j:=by omega
  rw[hj2,Int.toNat_natCast]at aC;have hj8:(j:Int)<8:=by omega
  have hlen:=Yd (.slice pw kl.length cw) ZK TP SS sl8;obtain⟨G,hG⟩:=Zx (J.setIfInBounds bo (.cells (ZS (.slice pw kl.length cw) ZK TP SS).toArray 150));rw[←hG]at hx QL HB HO ⊢;have y5:V.hc G ⟨bo,2,none⟩=some (.int .i64 TP):=by rw[Zh hx];rfl
  have w1:JJ G ⟨bo,3+j,none⟩ (.bool true)=some (G.setIfInBounds bo (.cells (ZS (.slice pw kl.length cw) ZK TP (SS.set j true)).toArray 150)):=by
   rw[YC hx,if_pos ⟨by rw[hlen];omega,rfl⟩,Dr]
  rw[aC];have Zgi:(SS.set j true).length=8:=by rw[List.length_set];exact sl8
  obtain⟨S2,hS2⟩:=Zx (SS.set j true);rw[←hS2]at w1 Zgi ⊢;have ej:=Yd (.slice pw kl.length cw) ZK TP S2 Zgi;have o2:=QC (p:=pw) (n:=kl.length) (c:=cw) ZK TP S2;have tk2:=YW ej;have hxb:=ZT (o:=.cells (ZS (.slice pw kl.length cw) ZK TP S2).toArray 150) hx;have rb:=Zq hxb ej;have ZoF:(G.setIfInBounds bo (.cells (ZS (.slice pw kl.length cw) ZK TP S2).toArray 150))[h.size+1]? = some (.cells Uu.toArray 150):=by rw[Array.getElem?_setIfInBounds,if_neg (by omega)];exact QL
  have w2:=wrZ ZoF ej o2;have k5:=Za QL;have HO2:Z0 (h.size+1+1) 5 (G.setIfInBounds bo (.cells (ZS (.slice pw kl.length cw) ZK TP S2).toArray 150)) (.slice pw kl.length cw) kl:=
   HO.M0 (x:=some bo) ⟨by simp,fun b hb YA=>by rw[Array.getElem?_setIfInBounds,if_neg (fun e=>YA (by rw[e]))]⟩ (fun b hb e=>by have:=Jlt b hb;simp at e;omega)
  have HB2:=(HB.Zm (b:=bo) (by omega) (.cells (ZS (.slice pw kl.length cw) ZK TP S2).toArray 150)).Zm (b:=h.size+1) (by omega) (.cells (ZS (.slice pw kl.length cw) ZK TP S2).toArray 150);simp -implicitDefEqProofs only[go_sem,↓reduceIte,f1,f2,f4,f5,f20,f21,YJ,y5,hj,hj8,Int.toNat_natCast,w1,rb,w2,ej,tk2,k5];exact⟨⟨_,rfl,(HO2.ZP (by omega) _).mono (by omega)⟩,HB2⟩
theorem pF {a b c d:Nat} (ha:a<256) (hb:b<256) (hc:c<256) (hd:d<256):Yc .or .i64 (Yc .or .i64 (Yc .or .i64 (YL .i64 (a:Int) 24) (YL .i64 (b:Int) 16)) (YL .i64 (c:Int) 8)) (d:Int)=((16777216*a+65536*b+256*c+d:Nat):Int):=by
 have e1:YL .i64 (a:Int) 24=((a*16777216:Nat):Int):=VU ha 24 (by omega);have e2:YL .i64 (b:Int) 16=((b*65536:Nat):Int):=VU hb 16 (by omega);have e3:YL .i64 (c:Int) 8=((c*256:Nat):Int):=VU hc 8 (by omega);have f1:a*16777216 ||| b*65536=a*16777216+b*65536:=Qf (k:=24) (by omega) (by omega)
 have f2:(a*16777216+b*65536) ||| c*256=a*16777216+b*65536+c*256:=Qf (k:=16) (by omega) (by omega)
 rw[e1,e2,e3,RZ _ _ (by omega) (by omega),f1,RZ _ _ (by omega) (by omega),f2,RZ _ _ (by omega) (by omega),Qf (k:=8) (by omega) (by omega)]
 congr 1;omega
def Vv (l:List Nat):Nat:=16777216*l.getD 0 0+65536*l.getD 1 0+256*l.getD 2 0+l.getD 3 0
theorem aO {l:List Nat} (w:∀x∈l,x<256) (hl:4≤l.length):Y2 (Vv l)=l.take 4:=by
 match l,hl with
 | a :: b :: c :: d :: l,_=>
  have h1:=w a (by simp);have h2:=w b (by simp);have h3:=w c (by simp);have h4:=w d (by simp);show [_,_,_,_]=[a,b,c,d]
  have e:Vv (a :: b :: c :: d :: l)=16777216*a+65536*b+256*c+d:=rfl;rw[e]
  congr 1
  ·omega
  ·congr 1
   ·omega
   ·congr 1
    ·omega
    ·congr 1
     omega
theorem ZbT {a b c d:Nat} (ha:a<256) (hb:b<256) (hc:c<256) (hd:d<256):16777216*a+65536*b+256*c+d<4294967296:=by omega
theorem vQ (l:List Nat):Vv l=16777216*l.getD 0 0+65536*l.getD 1 0+256*l.getD 2 0+l.getD 3 0:=by unfold Vv;rfl
def UX (kl:List Nat) (ZK top:Int) (s:List Bool) (rc:List Nat):Int:=
 if Xs kl.length ZK top s≠0 then 5 else if 2020<rc.length then 1 else if rc.length<20 then 13 else if 1073741824≤Vv rc then 2 else
 if D5 top s (Vv rc)=true then 7 else OK kl (Jk (Y2 (Vv rc))) (Y2 (Vv rc)) (rc.drop 4)
def eu (kl rc:List Nat):List Nat:=pC kl (Jk (Y2 (Vv rc))) (rc.drop 4)
def ME (top:Int) (s:List Bool) (n:Nat):List Bool:=XC (TD top s 8++[(n:Int)]) (max top (n+1))
def FU (B:Nat) (h':Hp) (v':Value) (kl:List Nat) (ZK top:Int) (s:List Bool) (rc:List Nat):Prop:=∃cw w,v'=.tuple [cw,w,.int .i64 (UX kl ZK top s rc)].toArray ∧
 eh B h' cw (UX kl ZK top s rc) kl ZK (max top (Vv rc+1)) (ME top s (Vv rc))∧Z0 B 5 h' w (if UX kl ZK top s rc=0 then eu kl rc else [])
theorem pG {top:Int} {s:List Bool} {n:Nat} (h:¬D5 top s n=true):¬(n:Int)<top-8:=by
 intro ZD;apply h;unfold D5;rw[decide_eq_true ZD];rfl
set_option maxHeartbeats 2000000 in
theorem D6 (T:World) (h:Hp) (k u:Value) (kl rc:List Nat) (ZK top:Int) (s:List Bool) (hs:s.length=8) (sk:Bs h k kl) (sp:Bs h u rc) (ck:VR k) (cu:VR u) :
  Zc Tryz.prog T 60 #[.agg (ZS k ZK top s).toArray,u] h fun v' h'=>FU h.size h' v' kl ZK top s rc∧Zf h.size h h':=by
 have tL:=sp.byte;obtain⟨p,c,rfl,_⟩:=sk.open;obtain⟨q,d,rfl,zL⟩:=sp.UL;have cu:rc.length≤d:=cu;have WE:=Yd (.slice p kl.length c) ZK top s hs;have tk:=YW WE;refine Zc.XM (args:=[_,_]) Tryz.func60 rfl rfl rfl rfl ?_;simp -implicitDefEqProofs only[go_sem,↓reduceIte,WE,tk];have V0:Zf h.size h ((h.push (.cells (ZS (.slice p kl.length c) ZK top s).toArray 150)).push (.cells Uu.toArray 150)):=by (repeat' (first|exact Zf.refl _ _|assumption|refine Zf.add ?_ _|refine Zf.Zm ?_ (by first|omega|(simp;omega)) _|refine Zf.trans (by assumption) ?_))
 refine (Oq T _ p kl.length c ZK top s hs).use ?_;rintro _ g1 ⟨rfl,b1⟩;have x0:g1[h.size]? = some (.cells (ZS (.slice p kl.length c) ZK top s).toArray 150):=b1.get (by simp only[Array.size_push];omega) (by simp only[Array.getElem?_push,Array.size_push,IntWalk.iteOmega,↓reduceIte]);have x1:g1[h.size+1]? = some (.cells Uu.toArray 150):=b1.get (by simp only[Array.size_push];omega) (by simp only[Array.getElem?_push,Array.size_push,IntWalk.iteOmega,↓reduceIte]<;>rfl);have Ul:Zf h.size h g1:=V0.trans (b1.mono (by simp;omega));have z1:=Za x1;clear b1 V0;have T3:UX kl ZK top s rc=if Xs kl.length ZK top s≠0 then 5 else if 2020<rc.length then 1 else if rc.length<20 then 13 else if 1073741824≤Vv rc then 2 else
 if D5 top s (Vv rc)=true then 7 else OK kl (Jk (Y2 (Vv rc))) (Y2 (Vv rc)) (rc.drop 4):=rfl
 unfold FU eh eu;have hbe:Vv rc=16777216*rc.getD 0 0+65536*rc.getD 1 0+256*rc.getD 2 0+rc.getD 3 0:=vQ rc;have h4:4≤rc.length→Y2 (Vv rc)=rc.take 4:=fun hl=>aO tL hl;obtain⟨E,hE⟩:=Zx (UX kl ZK top s rc);rw[←hE]at T3 ⊢;clear hE;obtain⟨n,hn⟩:=Zx (Vv rc);rw[←hn]at T3 hbe h4 ⊢;clear hn;have wz:∀g:Hp,g[h.size+1]? = some (.cells Uu.toArray 150)→wr g ⟨h.size+1,0,none⟩ [.slice none 0 0,.int .i64 0,.int .i64 0,.bool false,.bool false,.bool false,.bool false,.bool false,.bool false,.bool false,.bool false]=some (g.setIfInBounds (h.size+1) (.cells [.slice none 0 0,.int .i64 0,.int .i64 0,.bool false,.bool false,.bool false,.bool false,.bool false,.bool false,.bool false,.bool false].toArray 150)):=fun g hg=>wrZ hg rfl rfl;have tK:∀g:Hp,Zf h.size h g→Zf h.size h (g.setIfInBounds (h.size+1) (.cells #[.slice none 0 0,.int .i64 0,.int .i64 0,.bool false,.bool false,.bool false,.bool false,.bool false,.bool false,.bool false,.bool false] 150)):=fun g hg=>hg.Zm (by omega) _;have wz1:=wz g1 x1;by_cases e0:Xs kl.length ZK top s=0
 ·obtain⟨hk,s0,s1,t0,t1⟩:=ON e0;rw[if_neg (by simp[e0])]at T3;by_cases hm:2020<rc.length
  ·rw[if_pos hm]at T3;have Ln:2020<(rc.length:Int):=by omega
   simp -implicitDefEqProofs only[go_sem,↓reduceIte,e0,Ln,wz1,z1];exact⟨⟨_,_,by rw[T3];rfl,⟨_,rfl,Z0.nil _ _ _⟩,Z0.nil _ _ _⟩,tK _ Ul⟩
  ·rw[if_neg hm]at T3;have Ln:¬2020<(rc.length:Int):=by omega
   by_cases vS:rc.length<20
   ·rw[if_pos vS]at T3;have ZbU:(rc.length:Int)<20:=by omega
    simp -implicitDefEqProofs only[go_sem,↓reduceIte,e0,Ln,ZbU,wz1,z1];exact⟨⟨_,_,by rw[T3];rfl,⟨_,rfl,Z0.nil _ _ _⟩,Z0.nil _ _ _⟩,tK _ Ul⟩
   ·rw[if_neg vS]at T3;have ZbU:¬(rc.length:Int)<20:=by omega
    obtain⟨bb,oo,rfl,Wi,zL⟩:=zL (by intro e;rw[e]at vS;simp at vS);have u0:V.hc g1 ⟨bb,oo+0,none⟩=some (.int .u8 (rc.getD 0 0:Nat)):=by rw[Ul.hc (by exact Wi)];exact zL 0 (by omega)
    have u1:V.hc g1 ⟨bb,oo+1,none⟩=some (.int .u8 (rc.getD 1 0:Nat)):=by rw[Ul.hc (by exact Wi)];exact zL 1 (by omega)
    have u2:V.hc g1 ⟨bb,oo+2,none⟩=some (.int .u8 (rc.getD 2 0:Nat)):=by rw[Ul.hc (by exact Wi)];exact zL 2 (by omega)
    have u3:V.hc g1 ⟨bb,oo+3,none⟩=some (.int .u8 (rc.getD 3 0:Nat)):=by rw[Ul.hc (by exact Wi)];exact zL 3 (by omega)
    rw[Nat.add_zero]at u0;have w0:=ZI tL 0;have w1:=ZI tL 1;have w2:=ZI tL 2;have w3:=ZI tL 3;have h4:=h4 (by omega);have s4:=Ra sp (m:=4) (by omega) 4;rw[←h4]at s4;generalize rc.getD 0 0=r0 at *;generalize rc.getD 1 0=r1 at *;generalize rc.getD 2 0=r2 at *;generalize rc.getD 3 0=r3 at *;have Zgj:Unit→_:=fun _=>T3;clear T3;have ZnC:n<4294967296:=by rw[hbe];exact ZbT w0 w1 w2 w3
    have d4:(4:Int)≤d:=by omega
    have sh:Unit→Yc .or .i64 (Yc .or .i64 (Yc .or .i64 (YL .i64 (r0:Int) 24) (YL .i64 (r1:Int) 16)) (YL .i64 (r2:Int) 8)) (r3:Int)=(n:Int):=fun _=>by rw[pF w0 w1 w2 w3,hbe]
    clear hbe;simp -implicitDefEqProofs only[go_sem,↓reduceIte,e0,Ln,ZbU,d4];refine VS.mono (N:=fun F g=>g1=g∧F 1=.slice (some ⟨bb,oo,none⟩) rc.length d∧F 2=.pointer (some ⟨h.size,0,none⟩)∧F 4=.pointer (some ⟨h.size+1,0,none⟩)∧F 8=.slice (some ⟨bb,oo,none⟩) 4 4∧F 9=.int .i64 n) ?_ ?_ (fun _ _ _ h=>h) (fun _ _ h=>h)
    ·refine VS.q mixed (by kernel_rfl) ?_;simp -implicitDefEqProofs only[go_sem,↓reduceIte,u0,u1,u2,u3];exact congrArg _ (sh ())
    clear sh w0 w1 w2 w3;have T3:=Zgj ();clear Zgj;rintro F _ ⟨rfl,f1,f2,f4,f8,f9⟩;by_cases hb:1073741824≤n
    ·rw[if_pos hb]at T3;have XH:(1073741824:Int)≤(n:Int):=by clear T3;omega
     simp -implicitDefEqProofs only[go_sem,↓reduceIte,f1,f2,f4,f8,f9,XH,wz1,z1];exact⟨⟨_,_,by rw[T3];rfl,⟨_,rfl,Z0.nil _ _ _⟩,Z0.nil _ _ _⟩,tK _ Ul⟩
    ·rw[if_neg hb]at T3;have XH:¬(1073741824:Int)≤(n:Int):=by clear T3;omega
     have rC:rd g1 ⟨h.size,0,none⟩ 11=some (ZS (.slice p kl.length c) ZK top s):=Zq x0 WE;simp -implicitDefEqProofs only[go_sem,↓reduceIte,f1,f2,f4,f8,f9,XH,rC];refine (ZbR T _ _ ZK top s n hs t0 t1 (by clear T3;omega)).use ?_;rintro _ g2 ⟨rfl,b2⟩;have x02:=b2.get (Nat.lt_of_succ_lt z1) x0;have x12:=b2.get z1 x1;have z2:=b2.size;have Sa:=Ul.trans (b2.mono Ul.size);have wz2:=wz g2 x12;have zl2:=Za x12;by_cases pH:D5 top s n=true
     ·rw[if_pos pH]at T3;simp -implicitDefEqProofs only[go_sem,↓reduceIte,f1,f2,f4,f8,f9,pH,wz2,zl2];exact⟨⟨_,_,by rw[T3];rfl,⟨_,rfl,Z0.nil _ _ _⟩,Z0.nil _ _ _⟩,tK _ Sa⟩
     ·rw[if_neg pH]at T3;have ZfX:=pG pH;have Zgl:D5 top s n=false:=by simpa using pH
      have y0:V.hc g2 ⟨h.size,0,none⟩=some (.slice p kl.length c):=by rw[Zh x02];rfl
      have zl0:=Za x02;have l4:(Y2 n).length=4:=rfl;have l12:(Jk (Y2 n)).length≤1000:=by simp[Jk,Y2]
      have sbk:=S4 sp rfl (k:=4) (by omega) cu (d-4);have ZoG:(4:Int)≤rc.length:=by clear T3;omega
      simp -implicitDefEqProofs only[go_sem,↓reduceIte,f1,f2,f4,f8,f9,Zgl];refine VS.w (g2.size) [] (.q 0 (.q 1 (.q 2 (.q 4 (.q 5 (.q 6 (.s 3 (.s 7 (.q 8 (.q 9 (.q 10 (.q 11 (.q 12 .nil))))))))))))) mixed (by kernel_rfl) ?_;simp -implicitDefEqProofs only[go_sem,↓reduceIte,f1,f2,f4,f8,f9,y0,zl0,ZoG,Q6];refine (OL T _ _ _ (s4.Z2 Sa) (by rw[l4];decide)).use ?_;rintro vn g3 ⟨on,b3⟩;have z3:=b3.size;have b3T:Zf g2.size g2 g3=True:=eq_true b3;have hB3:=Sa.trans (b3.mono Sa.size);simp -implicitDefEqProofs only[go_sem,↓reduceIte,f1,f2,f4,f8,f9,b3T];refine (vO T _ _ _ _ _ kl (Jk (Y2 n)) (Y2 n) (rc.drop 4) (sk.Z2 hB3) on.bs (s4.Z2 hB3) (sbk.Z2 hB3) ck on.cap (show rc.length-4≤d-4 by omega)).use ?_;rintro _ g4 ⟨⟨w4,rfl,o4⟩,b4⟩;have z4:=b4.size;have Bv:Zf g2.size g2 g4:=b3.trans (b4.mono z3);have pE:Zf g2.size g2 g4=True:=eq_true Bv;rw[←T3]at o4 ⊢;have x14:=Bv.get zl2 x12;have x04:=Bv.get zl0 x02;have dP:=Sa.trans (Bv.mono Sa.size);have wz4:=wz g4 x14;have zl4:=Za x14;clear T3;by_cases hE0:E=0
      ·subst hE0;rw[if_pos rfl]at o4;have rC4:rd g4 ⟨h.size,0,none⟩ 11=some (ZS (.slice p kl.length c) ZK top s):=Zq x04 WE;simp -implicitDefEqProofs only[go_sem,↓reduceIte,f1,f2,f4,f8,f9,pE,rC4];refine (vP T _ _ kl ZK top s n hs (sk.Z2 dP) (by omega) t0 t1 (by omega) ZfX).use ?_;rintro _ g5 ⟨⟨w5,rfl,o5⟩,b5⟩;have x15:=b5.get zl4 x14;have z5:=b5.size;obtain⟨pw,cw,rfl,_⟩:=o5.open;have l8:(ME top s n).length=8:=Vm _ _;have Le:=Yd (.slice pw kl.length cw) ZK (max top ((n:Int)+1)) (ME top s n) l8;have oD:=QC (p:=pw) (n:=kl.length) (c:=cw) ZK (max top ((n:Int)+1)) (ME top s n);have iI:=YW Le;have wD:=wrZ x15 Le oD;have zl5:=Za x15;rw[show XC (TD top s 8++[(n:Int)]) (max top ((n:Int)+1))=ME top s n from rfl];have o4':=o4.Z2 b5 (Nat.le_refl _);obtain⟨C5,hC5⟩:=Zx (ZS (.slice pw kl.length cw) ZK (max top ((n:Int)+1)) (ME top s n));rw[←hC5]at Le oD iI wD ⊢;simp -implicitDefEqProofs only[go_sem,↓reduceIte,f1,f2,f4,f8,f9,pE,wD,Le,iI,zl5];exact⟨⟨_,_,rfl,⟨_,by rw[hC5],(o5.ZP (by omega) _).mono (by omega)⟩,(o4'.ZP (by omega) _).mono (by omega)⟩,(dP.trans (b5.mono dP.size)).Zm (by omega) _⟩
      ·rw[if_neg hE0]at o4;simp -implicitDefEqProofs only[go_sem,↓reduceIte,f1,f2,f4,f8,f9,pE,hE0,wz4,zl4];exact⟨⟨_,_,rfl,⟨_,rfl,Z0.nil _ _ _⟩,Z0.nil _ _ _⟩,tK _ dP⟩
 ·rw[if_pos e0]at T3;have e5:=(OM kl.length ZK top s).resolve_left e0;simp -implicitDefEqProofs only[go_sem,↓reduceIte,e5,wz1,z1];exact⟨⟨_,_,by rw[T3];rfl,⟨_,rfl,Z0.nil _ _ _⟩,Z0.nil _ _ _⟩,tK _ Ul⟩
end Go.Proofs.YtboeoomhjbcecaaGreatDoor
