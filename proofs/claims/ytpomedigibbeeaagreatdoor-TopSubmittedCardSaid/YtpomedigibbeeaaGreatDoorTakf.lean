/- Bytes padded to sixteen, lengths in eight bytes, and the tag of what is sealed, on both sides; no condition but those in the statements. -/
import Derived.Test.YtpomedigibbeeaaGreatDoorPolg
import Derived.Test.YtpomedigibbeeaaGreatDoorMix
import Derived.Test.YtpomedigibbeeaaGreatDoorBytes
import Derived.Test.YtpomedigibbeeaaGreatDoorVst
import Derived.Test.YtpomedigibbeeaaGreatDoorW15
import Derived.Test.YtpomedigibbeeaaGreatDoorLine
import Derived.Test.YtpomedigibbeeaaGreatDoorW13
namespace Go.Proofs.YtpomedigibbeeaaGreatDoor
open Go Go.V
set_option linter.unusedSimpArgs false
set_option linter.unusedVariables false
set_option maxRecDepth 100000
def gu (l:List Nat):List Nat:=l++List.replicate ((16-l.length%16)%16) 0
def Dh (n:Nat):List Nat:=(List.range 8).map fun i=>n/256 ^ i%256
def VI (known X3:List Nat):List Nat:=gu known++gu X3++Dh known.length++Dh X3.length
def QF (key Zq known X3:List Nat):List Nat:=At ((Xq key 0 Zq).take 32) (VI known X3)
theorem Di (l:List Nat):(gu l).length=l.length+(16-l.length%16)%16:=by simp[gu]
theorem MX (l:List Nat):(gu l).length≤l.length+15:=by rw[Di];omega
theorem JI (n:Nat):(Dh n).length=8:=by simp[Dh]
theorem Hy (T:World) (h:Hp) (v:Value) (l:List Nat) (s:Bs h v l) (hl:l.length≤4000) :
  Zd Tryz.prog T 85 #[v] h fun v' h'=>Z0 h.size 5 h' v' (gu l)∧Zg h.size h h':=by
 obtain⟨p,c,rfl,UF⟩:=s.open
 refine Zd.Zj (args:=[_]) Tryz.func85 rfl rfl rfl rfl ?_
 simp -implicitDefEqProofs only[go_sem,↓reduceIte]
 refine Zw (E:=5) (B:=h.size) YC Tryz.underlying34 WH VA Vz (Z0.nil _ _ _) (Nat.le_refl _) s (by simp;omega) ?_
 intro v1 h1 o1 b1 _
 rw[List.nil_append]at o1
 have e1:((l.length:Nat):Int).tmod 16=((l.length%16:Nat):Int):=rfl
 have e2:(16:Int)-((l.length%16:Nat):Int)=((16-l.length%16:Nat):Int):=by omega
 have e3:((16-l.length%16:Nat):Int).tmod 16=(((16-l.length%16)%16:Nat):Int):=rfl
 simp -implicitDefEqProofs only[go_sem,↓reduceIte,e1,e2,e3]
 refine LH (E:=5) (B:=h.size) YC Tryz.underlying3 WH VA Vz o1 b1.size (by omega) ?_
 intro v2 h2 o2 b2 _
 simp -implicitDefEqProofs only[go_sem,↓reduceIte]
 exact⟨o2,b1.trans b2⟩
theorem Hz (T:World) (h:Hp) (n:Nat) (hn:n<9223372036854775808) :
  Zd Tryz.prog T 86 #[.int .i64 n] h fun v' h'=>Z0 h.size 5 h' v' (Dh n)∧Zg h.size h h':=by
 refine Zd.Zj (args:=[_]) Tryz.func86 rfl rfl rfl rfl ?_
 simp -implicitDefEqProofs only[go_sem,↓reduceIte]
 refine VS.ZV (fun F g=>Zg h.size h g∧F 0=.int .i64 n∧∃j:Nat,j≤8∧F 4=.int .i64 (8*j:Nat)∧Z0 h.size 5 g (F 3) ((Dh n).take j))
  (fun F _=>64-(vi (F 4)).toNat) rfl ⟨Zg.refl _ _,rfl,0,by omega,rfl,Z0.nil _ _ _⟩ ?_
 rintro F g ⟨hg,f0,j,hj,f4,ho⟩
 have T9:=hg.size
 by_cases ZD:j<8
 ·have ZL:((8*j:Nat):Int)<64:=by omega
  have e1:Xh .i64 (n:Int) ((8*j:Nat):Int)=((n/256 ^ j:Nat):Int):=by
   rw[SF .i64 n (8*j) (by show 8*j≤64;omega),Nat.shiftRight_eq_div_pow,Nat.pow_mul]
  have e2:((n/256 ^ j:Nat):Int)%256=((n/256 ^ j%256:Nat):Int):=rfl
  have e3:¬((8*j:Nat):Int)<0:=by omega
  have e4:((8*j:Nat):Int)+8=((8*(j+1):Nat):Int):=by omega
  simp -implicitDefEqProofs only[go_sem,↓reduceIte,f0,f4,ZL,e1,e2,e3]
  have hX:n/256 ^ j%256<256:=Nat.mod_lt _ (by decide)
  refine Zw (E:=5) (B:=h.size) YC Tryz.underlying34 WH VA Vz (ho.push _) (by simp;omega) (Bs.one hX 1) (by simp[JI];omega) ?_
  intro v' h' RH XN _
  simp -implicitDefEqProofs only[go_sem,↓reduceIte,f0,f4,e4]
  refine⟨⟨(hg.Yh T9 _).trans XN,f0,j+1,ZD,rfl,?_⟩,?_⟩
  ·rw[Yg _ j (by rw[JI];exact ZD)]
   have e:(Dh n)[j]'(by rw[JI];exact ZD)=n/256 ^ j%256:=by simp[Dh]
   rw[e];exact RH
  ·simp only[vi,Zk,↓reduceIte,f4];omega
 ·have YJ:¬((8*j:Nat):Int)<64:=by omega
  obtain rfl:j=8:=by omega
  rw[List.take_of_length_le (by rw[JI];exact Nat.le_refl _)]at ho
  simp -implicitDefEqProofs only[go_sem,↓reduceIte,f0,f4,YJ]
  exact⟨ho,hg⟩
theorem Rr {key Zq:List Nat} {k:Int} (hk:key.length=32) (hn:Zq.length=12) (h0:0≤k) (h1:k≤1073741824):XD key k Zq=0:=by
 unfold XD
 rw[if_neg (by omega),if_neg (by omega)]
theorem IL (key:List Nat) (k:Nat) (Zq:List Nat):(Xq key k Zq).length=64:=by simp[Xq,IF]
theorem Dj {known X3:List Nat} (hk:known.length≤256) (hs:X3.length≤2000):(VI known X3).length≤2400:=by
 unfold VI
 have h1:=MX known
 have h2:=MX X3
 simp only[List.length_append,JI];omega
theorem Dk {key data:List Nat} (hk:key.length=32) (hd:data.length≤4000):Ve key data=0:=by
 unfold Ve;rw[if_neg (by omega)]
set_option maxHeartbeats 1000000 in
theorem N0 (T:World) (h:Hp) (v u kn sv:Value) (key Zq known X3:List Nat) (sk:Bs h v key) (sn:Bs h u Zq) (sw:Bs h kn known) (ss:Bs h sv X3) (hk:key.length=32) (hn:Zq.length=12) (hw:known.length≤256) (hs:X3.length≤2000) (ck:Ta v) (cn:Ta u) :
  Zd Tryz.prog T 65 #[v,u,kn,sv] h fun v' h'=>Z0 h.size 5 h' v' (QF key Zq known X3)∧Zg h.size h h':=by
 obtain⟨pw,cw,rfl,_⟩:=sw.open
 obtain⟨ps,cs,rfl,_⟩:=ss.open
 refine Zd.Zj (args:=[_,_,_,_]) Tryz.func65 rfl rfl rfl rfl ?_
 simp -implicitDefEqProofs only[go_sem,↓reduceIte]
 refine (mI T _ _ _ key Zq 0 sk sn ck cn).use ?_
 rintro _ h1 ⟨⟨w1,rfl,o1⟩,b1⟩
 have e0:=Rr (k:=0) hk hn (by decide) (by decide)
 rw[e0,if_pos rfl]at o1
 rw[e0]
 have o1:Z0 h.size 5 h1 w1 (Xq key 0 Zq):=o1
 have z1:=b1.size
 simp -implicitDefEqProofs only[go_sem,↓reduceIte]
 refine (Hy T _ _ known (sw.Ya b1) (by omega)).use ?_
 rintro v2 h2 ⟨o2,b2⟩
 have z2:=b2.size
 have B2:=b1.trans (b2.mono z1)
 simp -implicitDefEqProofs only[go_sem,↓reduceIte]
 refine (Hy T _ _ X3 (ss.Ya B2) (by omega)).use ?_
 rintro v3 h3 ⟨o3,b3⟩
 have z3:=b3.size
 have B3:=B2.trans (b3.mono (by omega))
 have l1:=MX known
 have l2:=MX X3
 simp -implicitDefEqProofs only[go_sem,↓reduceIte]
 refine Zw (E:=5) (B:=h1.size) YC Tryz.underlying34 WH VA Vz (o2.Ya b3 (Nat.le_refl _)) (by omega) o3.bs (by omega) ?_
 intro v4 h4 o4 b4 _
 have z4:=b4.size
 simp -implicitDefEqProofs only[go_sem,↓reduceIte]
 refine (Hz T _ known.length (by omega)).use ?_
 rintro v5 h5 ⟨o5,b5⟩
 have z5:=b5.size
 simp -implicitDefEqProofs only[go_sem,↓reduceIte]
 refine Zw (E:=5) (B:=h1.size) YC Tryz.underlying34 WH VA Vz (o4.Ya b5 (Nat.le_refl _)) (by omega) o5.bs (by simp only[List.length_append,JI];omega) ?_
 intro v6 h6 o6 b6 _
 have z6:=b6.size
 simp -implicitDefEqProofs only[go_sem,↓reduceIte]
 refine (Hz T _ X3.length (by omega)).use ?_
 rintro v7 h7 ⟨o7,b7⟩
 have z7:=b7.size
 simp -implicitDefEqProofs only[go_sem,↓reduceIte]
 refine Zw (E:=5) (B:=h1.size) YC Tryz.underlying34 WH VA Vz (o6.Ya b7 (Nat.le_refl _)) (by omega) o7.bs (by simp only[List.length_append,JI];omega) ?_
 intro v8 h8 o8 b8 _
 have z8:=b8.size
 have o8:Z0 h1.size 5 h8 v8 (VI known X3):=o8
 have B8:Zg h1.size h1 h8:=(((((b2.trans (b3.mono z2)).trans b4).trans (b5.mono (by omega))).trans b6).trans (b7.mono (by omega))).trans b8
 have o1':=o1.Ya B8 (Nat.le_refl _)
 have hlb:=IL key 0 Zq
 obtain⟨pb,cb,rfl,Gj⟩:=o1'.open
 rw[hlb]at Gj o1' ⊢
 have s32:=SQ o1'.bs (m:=32) (by omega) cb
 have c32:(32:Int)≤cb:=by omega
 have l32:((Xq key 0 Zq).take 32).length=32:=by rw[List.length_take];omega
 have hd:=Dj hw hs
 simp -implicitDefEqProofs only[go_sem,↓reduceIte,c32]
 refine (Df T _ _ _ ((Xq key 0 Zq).take 32) (VI known X3) s32 o8.bs (show 32≤cb by omega) o8.cap).use ?_
 rintro _ h9 ⟨⟨w9,rfl,o9⟩,b9⟩
 have e9:=Dk (data:=VI known X3) l32 (by omega)
 rw[e9,if_pos rfl]at o9
 rw[e9]
 simp -implicitDefEqProofs only[go_sem,↓reduceIte]
 exact⟨o9.mono (by omega),(b1.trans (B8.mono z1)).trans (b9.mono (by omega))⟩
def X4 (k n w m Xr:Nat):Int:=if k≠32∨n≠12∨256<w∨Xr<m then 1 else 0
theorem Om {k n w m Xr:Nat} (e:X4 k n w m Xr=0):k=32∧n=12∧w≤256∧m≤Xr:=by
 unfold X4 at e
 split at e
 ·cases e
 ·omega
theorem N9 {k n w m Xr:Nat} (e:¬X4 k n w m Xr=0):X4 k n w m Xr=1:=by
 unfold X4 at e ⊢
 split
 ·rfl
 ·rename_i h;rw[if_neg h]at e;exact (e rfl).elim
theorem On (T:World) (h:Hp) (p q r s:Option Addr) (k n w m c1 c2 c3 c4 Xr:Nat) :
  Zd Tryz.prog T 64 #[.slice p k c1,.slice q n c2,.slice r w c3,.slice s m c4,.int .i64 Xr] h fun v' h'=>v'=.int .i64 (X4 k n w m Xr)∧h'=h:=by
 refine Zd.Zj (args:=[_,_,_,_,_]) Tryz.func64 rfl rfl rfl rfl ?_
 unfold X4
 by_cases q0:k=32
 ·
  by_cases q1:n=12
  ·
   by_cases q2:w≤256
   ·
    by_cases q3:m≤Xr
    ·
     have c0:(k:Int)=32∨¬(k:Int)=32:=by omega
     have c1:(n:Int)=12∨¬(n:Int)=12:=by omega
     have c2:256<(w:Int)∨¬256<(w:Int):=by omega
     have c3:(Xr:Int)<(m:Int)∨¬(Xr:Int)<(m:Int):=by omega
     rcases c0 with c0|c0<;>rcases c1 with c1|c1<;>rcases c2 with c2|c2<;>rcases c3 with c3|c3<;>first
      | (exfalso;omega)
      | (rw[if_neg (by omega)];simp -implicitDefEqProofs only[go_sem,↓reduceIte,c0,c1,c2,c3])
      | (rw[if_pos (by omega)];simp -implicitDefEqProofs only[go_sem,↓reduceIte,c0,c1,c2,c3])
    ·
     have c0:(k:Int)=32∨¬(k:Int)=32:=by omega
     have c1:(n:Int)=12∨¬(n:Int)=12:=by omega
     have c2:256<(w:Int)∨¬256<(w:Int):=by omega
     have c3:(Xr:Int)<(m:Int)∨¬(Xr:Int)<(m:Int):=by omega
     rcases c0 with c0|c0<;>rcases c1 with c1|c1<;>rcases c2 with c2|c2<;>rcases c3 with c3|c3<;>first
      | (exfalso;omega)
      | (rw[if_neg (by omega)];simp -implicitDefEqProofs only[go_sem,↓reduceIte,c0,c1,c2,c3])
      | (rw[if_pos (by omega)];simp -implicitDefEqProofs only[go_sem,↓reduceIte,c0,c1,c2,c3])
   ·
    have c0:(k:Int)=32∨¬(k:Int)=32:=by omega
    have c1:(n:Int)=12∨¬(n:Int)=12:=by omega
    have c2:256<(w:Int)∨¬256<(w:Int):=by omega
    have c3:(Xr:Int)<(m:Int)∨¬(Xr:Int)<(m:Int):=by omega
    rcases c0 with c0|c0<;>rcases c1 with c1|c1<;>rcases c2 with c2|c2<;>rcases c3 with c3|c3<;>first
     | (exfalso;omega)
     | (rw[if_neg (by omega)];simp -implicitDefEqProofs only[go_sem,↓reduceIte,c0,c1,c2,c3])
     | (rw[if_pos (by omega)];simp -implicitDefEqProofs only[go_sem,↓reduceIte,c0,c1,c2,c3])
  ·
   have c0:(k:Int)=32∨¬(k:Int)=32:=by omega
   have c1:(n:Int)=12∨¬(n:Int)=12:=by omega
   have c2:256<(w:Int)∨¬256<(w:Int):=by omega
   have c3:(Xr:Int)<(m:Int)∨¬(Xr:Int)<(m:Int):=by omega
   rcases c0 with c0|c0<;>rcases c1 with c1|c1<;>rcases c2 with c2|c2<;>rcases c3 with c3|c3<;>first
    | (exfalso;omega)
    | (rw[if_neg (by omega)];simp -implicitDefEqProofs only[go_sem,↓reduceIte,c0,c1,c2,c3])
    | (rw[if_pos (by omega)];simp -implicitDefEqProofs only[go_sem,↓reduceIte,c0,c1,c2,c3])
 ·
  have c0:(k:Int)=32∨¬(k:Int)=32:=by omega
  have c1:(n:Int)=12∨¬(n:Int)=12:=by omega
  have c2:256<(w:Int)∨¬256<(w:Int):=by omega
  have c3:(Xr:Int)<(m:Int)∨¬(Xr:Int)<(m:Int):=by omega
  rcases c0 with c0|c0<;>rcases c1 with c1|c1<;>rcases c2 with c2|c2<;>rcases c3 with c3|c3<;>first
   | (exfalso;omega)
   | (rw[if_neg (by omega)];simp -implicitDefEqProofs only[go_sem,↓reduceIte,c0,c1,c2,c3])
   | (rw[if_pos (by omega)];simp -implicitDefEqProofs only[go_sem,↓reduceIte,c0,c1,c2,c3])
def HC (key Zq known plain:List Nat):List Nat:=Of key 1 Zq plain++QF key Zq known (Of key 1 Zq plain)
def cI (B:Nat) (h':Hp) (v':Value) (key Zq known plain:List Nat):Prop:=∃w,v'=.tuple [w,.int .i64 (X4 key.length Zq.length known.length plain.length 2000)].toArray∧Z0 B 5 h' w (if X4 key.length Zq.length known.length plain.length 2000=0 then HC key Zq known plain else [])
theorem Ma {key Zq:List Nat} {k:Int} {n:Nat} (hk:key.length=32) (hn:Zq.length=12) (h0:0≤k) (h1:k≤1073741824) (hm:n≤2000):Va key k Zq n=0:=by
 unfold Va
 rw[Rr hk hn h0 h1,if_neg (by simp),if_neg (by omega)]
theorem MY (key data:List Nat):(At key data).length≤16:=by rw[E8];exact Nat.le_refl _
theorem tU (T:World) (h:Hp) (v u kn sv:Value) (key Zq known plain:List Nat) (sk:Bs h v key) (sn:Bs h u Zq) (sw:Bs h kn known) (ss:Bs h sv plain) (ck:Ta v) (cn:Ta u) :
  Zd Tryz.prog T 92 #[v,u,kn,sv] h fun v' h'=>cI h.size h' v' key Zq known plain∧Zg h.size h h':=by
 obtain⟨p,c,rfl,_⟩:=sk.open
 obtain⟨q,d,rfl,_⟩:=sn.open
 obtain⟨pw,cw,rfl,_⟩:=sw.open
 obtain⟨ps,cs,rfl,_⟩:=ss.open
 refine Zd.Zj (args:=[_,_,_,_]) Tryz.func92 rfl rfl rfl rfl ?_
 unfold cI
 simp -implicitDefEqProofs only[go_sem,↓reduceIte]
 refine (On T _ _ _ _ _ _ _ _ _ _ _ _ _ 2000).pure ?_
 by_cases e:X4 key.length Zq.length known.length plain.length 2000=0
 ·obtain⟨hk,hn,hw,hs⟩:=Om e
  rw[e,if_pos rfl]
  simp -implicitDefEqProofs only[go_sem,↓reduceIte,e]
  refine (mN T _ _ _ _ key Zq plain 1 sk sn ss ck cn).use ?_
  rintro _ h1 ⟨⟨w1,rfl,o1⟩,b1⟩
  have e1:=Ma (k:=1) hk hn (by decide) (by decide) hs
  rw[e1,if_pos rfl]at o1
  rw[e1]
  have o1:Z0 h.size 5 h1 w1 (Of key 1 Zq plain):=o1
  have z1:=b1.size
  have l1:=WN key 1 Zq plain
  simp -implicitDefEqProofs only[go_sem,↓reduceIte]
  refine (N0 T _ _ _ _ _ key Zq known (Of key 1 Zq plain) (sk.Ya b1) (sn.Ya b1) (sw.Ya b1) o1.bs hk hn hw (by omega) ck cn).use ?_
  rintro v2 h2 ⟨o2,b2⟩
  have l2:(QF key Zq known (Of key 1 Zq plain)).length≤16:=MY _ _
  have z2:=b2.size
  simp -implicitDefEqProofs only[go_sem,↓reduceIte]
  refine Zw (E:=5) (B:=h.size) YC Tryz.underlying34 WH VA Vz (o1.Ya b2 (Nat.le_refl _)) (by omega) o2.bs (by omega) ?_
  intro v3 h3 o3 b3 _
  simp -implicitDefEqProofs only[go_sem,↓reduceIte]
  exact⟨⟨_,rfl,o3⟩,(b1.trans (b2.mono z1)).trans b3⟩
 ·have e1:=N9 e
  rw[if_neg e]
  simp -implicitDefEqProofs only[go_sem,↓reduceIte,e1]
  exact⟨_,rfl,Z0.nil _ _ _⟩
theorem HD (a:Option Addr) (c:Nat):BX a 1 c 0=a:=by
 unfold BX
 split
 ·rfl
 ·cases a with
  | none=>rfl
  | some a=>simp[Addr.add]
def Oo (key Zq known data:List Nat):Int:=if X4 key.length Zq.length known.length data.length 2016≠0 then 1 else if data.length<16 then 13 else if QF key Zq known (data.take (data.length-16))≠data.drop (data.length-16) then 6 else 0
def nk (key Zq data:List Nat):List Nat:=Of key 1 Zq (data.take (data.length-16))
def cJ (B:Nat) (h':Hp) (v':Value) (key Zq known data:List Nat):Prop:=∃w,v'=.tuple [w,.int .i64 (Oo key Zq known data)].toArray∧Z0 B 5 h' w (if Oo key Zq known data=0 then nk key Zq data else [])
theorem tV (T:World) (h:Hp) (v u kn sv:Value) (key Zq known data:List Nat) (sk:Bs h v key) (sn:Bs h u Zq) (sw:Bs h kn known) (ss:Bs h sv data) (ck:Ta v) (cn:Ta u) (cs:Ta sv) :
  Zd Tryz.prog T 39 #[v,u,kn,sv] h fun v' h'=>cJ h.size h' v' key Zq known data∧Zg h.size h h':=by
 obtain⟨p,c,rfl,_⟩:=sk.open
 obtain⟨q,d,rfl,_⟩:=sn.open
 obtain⟨pw,cw,rfl,_⟩:=sw.open
 obtain⟨ps,cd,rfl,_⟩:=ss.open
 have cs:data.length≤cd:=cs
 refine Zd.Zj (args:=[_,_,_,_]) Tryz.func39 rfl rfl rfl rfl ?_
 unfold cJ
 simp -implicitDefEqProofs only[go_sem,↓reduceIte]
 refine (On T _ _ _ _ _ _ _ _ _ _ _ _ _ 2016).pure ?_
 have np:Oo key Zq known data=if X4 key.length Zq.length known.length data.length 2016≠0 then 1 else if data.length<16 then 13 else if QF key Zq known (data.take (data.length-16))≠data.drop (data.length-16) then 6 else 0:=rfl
 by_cases e:X4 key.length Zq.length known.length data.length 2016=0
 ·obtain⟨hk,hn,hw,hs⟩:=Om e
  rw[if_neg (by simp[e])]at np
  by_cases h16:data.length<16
  ·rw[if_pos h16]at np
   rw[np]
   have n0:(data.length:Int)-16<0:=by omega
   simp -implicitDefEqProofs only[go_sem,↓reduceIte,e,n0]
   exact⟨_,rfl,Z0.nil _ _ _⟩
  ·rw[if_neg h16]at np
   have n0:¬((data.length-16:Nat):Int)<0:=by omega
   have n1:(data.length:Int)-16=((data.length-16:Nat):Int):=by omega
   have sfr:=SQ ss (m:=data.length-16) (by omega) cd
   have sbk:=SL ss rfl (k:=data.length-16) (by omega) cs (cd-(data.length-16))
   have lfr:(data.take (data.length-16)).length=data.length-16:=by rw[List.length_take];omega
   have ZeP:((data.length-16:Nat):Int)≤cd:=by omega
   have ZmL:((data.length-16:Nat):Int)≤data.length:=by omega
   simp -implicitDefEqProofs only[go_sem,↓reduceIte,e,n1,n0]
   refine VS.w (h.size) [] (.q 0 (.q 1 (.q 2 (.q 3 (.q 4 (.q 5 (.q 7 (.q 8 (.q 9 (.s 6 (.s 10 (.q 11 .nil)))))))))))) mixed (by kernel_rfl) ?_
   simp -implicitDefEqProofs only[go_sem,↓reduceIte,ZeP,ZmL,Int.toNat_natCast,QT,HD]
   refine (N0 T _ _ _ _ _ key Zq known (data.take (data.length-16)) sk sn sw sfr hk hn hw (by omega) ck cn).use ?_
   rintro v1 h1 ⟨o1,b1⟩
   have l1:(QF key Zq known (data.take (data.length-16))).length≤16:=MY _ _
   simp -implicitDefEqProofs only[go_sem,↓reduceIte,b1]
   refine (GN T _ _ _ _ _ o1.bs (sbk.Ya b1) (by omega)).pure ?_
   obtain⟨S,hS⟩:=Zy (QF key Zq known (data.take (data.length-16)))
   rw[←hS]at np ⊢
   by_cases ht:S=data.drop (data.length-16)
   ·rw[if_neg (by simp[ht])]at np
    rw[np,if_pos rfl]
    have ht':decide (S=data.drop (data.length-16))=true:=decide_eq_true ht
    simp -implicitDefEqProofs only[go_sem,↓reduceIte,b1,ht',ZeP,QT,HD]
    refine (mN T _ _ _ _ key Zq (data.take (data.length-16)) 1 (sk.Ya b1) (sn.Ya b1) (sfr.Ya b1) ck cn).use ?_
    rintro _ h2 ⟨⟨w2,rfl,o2⟩,b2⟩
    have e2:=Ma (k:=1) hk hn (by decide) (by decide) (show (data.take (data.length-16)).length≤2000 by omega)
    rw[e2,if_pos rfl]at o2
    rw[e2]
    have o2:Z0 h1.size 5 h2 w2 (nk key Zq data):=o2
    simp -implicitDefEqProofs only[go_sem,↓reduceIte]
    exact⟨⟨_,rfl,o2.mono b1.size⟩,b1.trans (b2.mono b1.size)⟩
   ·rw[if_pos ht]at np
    rw[np]
    have ht':decide (S=data.drop (data.length-16))=false:=decide_eq_false ht
    simp -implicitDefEqProofs only[go_sem,↓reduceIte,b1,ht']
    exact⟨_,rfl,Z0.nil _ _ _⟩
 ·have e1:=N9 e
  rw[if_pos e]at np
  rw[np]
  simp -implicitDefEqProofs only[go_sem,↓reduceIte,e1]
  exact⟨_,rfl,Z0.nil _ _ _⟩
def YU (n:Nat):List Nat:=[n/16777216%256,n/65536%256,n/256%256,n%256]
theorem AG (n:Nat):∀x∈YU n,x<256:=by
 intro x hx
 simp only[YU,List.mem_cons,List.not_mem_nil,or_false]at hx
 omega
theorem Kh (n k:Nat) (hk:k≤64):Xh .i64 (n:Int) (k:Int)=((n/2 ^ k:Nat):Int):=by
 rw[SF .i64 n k hk,Nat.shiftRight_eq_div_pow]
theorem Dl (T:World) (h:Hp) (n:Nat) (hn:n≤1073741824) :
  Zd Tryz.prog T 91 #[.int .i64 n] h fun v' h'=>Z0 h.size 5 h' v' (YU n)∧Zg h.size h h':=by
 refine Zd.Zj (args:=[_]) Tryz.func91 rfl rfl rfl rfl ?_
 have e1:Xh .i64 (n:Int) 24%256=((n/16777216%256:Nat):Int):=by rw[show (24:Int)=((24:Nat):Int) from rfl,Kh n 24 (by omega)];omega
 have e2:Xh .i64 (n:Int) 16%256=((n/65536%256:Nat):Int):=by rw[show (16:Int)=((16:Nat):Int) from rfl,Kh n 16 (by omega)];omega
 have e3:Xh .i64 (n:Int) 8%256=((n/256%256:Nat):Int):=by rw[show (8:Int)=((8:Nat):Int) from rfl,Kh n 8 (by omega)];omega
 have e4:(n:Int)%256=((n%256:Nat):Int):=by omega
 simp -implicitDefEqProofs only[go_sem,↓reduceIte,e1,e2,e3,e4]
 exact Z0.made (l:=YU n) (AG n) (Nat.le_refl _)
def X6 (l:List Nat):List Nat:=List.replicate 8 0++l
theorem Zas:(XS 12 [Value.int .u8 0])=(List.replicate 12 0).map bv:=rfl
theorem Oq (T:World) (h:Hp) (v:Value) (l:List Nat) (s:Bs h v l) (hl:l.length≤1000) :
  Zd Tryz.prog T 40 #[v] h fun v' h'=>Z0 h.size 5 h' v' (X6 l)∧Zg h.size h h':=by
 refine Zd.Zj (args:=[_]) Tryz.func40 rfl rfl rfl rfl ?_
 simp -implicitDefEqProofs only[go_sem,↓reduceIte,Zas]
 have o1:Z0 h.size 5 (h.push (.cells ((List.replicate 12 0).map bv).toArray 5)) (.slice (some ⟨h.size,0,none⟩) 8 12) (List.replicate 8 0):=by
  refine⟨.inr ⟨h.size,12,(List.replicate 4 0).map bv,Nat.le_refl _,rfl,?_,by simp,by simp,by simp⟩,fun x hx=>by rw[List.eq_of_mem_replicate hx];decide⟩
  rw[Zb,←List.map_append];rfl
 refine Zw (E:=5) (B:=h.size) YC Tryz.underlying34 WH VA Vz o1 (by simp) (s.Ya (Zg.push (Nat.le_refl _) _)) (by simp;omega) ?_
 intro v' h' RH XN _
 simp -implicitDefEqProofs only[go_sem,↓reduceIte]
 exact⟨RH,(Zg.push (Nat.le_refl _) _).trans XN⟩
def WS (n:Nat) (ZH top:Int) (s:List Bool) (m:Nat):Int:=if Xl n ZH top s≠0 then 5 else if 2000<m then 1 else if ZH=1073741824 then 8 else 0
def X7:List Bool:=[false,false,false,false,false,false,false,false]
def AH (kl:List Nat) (n:Nat) (plain:List Nat):List Nat:=YU n++HC kl (X6 (YU n)) (YU n) plain
def cK (B:Nat) (h':Hp) (cw:Value) (e:Int) (kl:List Nat) (ZH top:Int) (s:List Bool):Prop:=GQ B h' cw (if e=0 then kl else []) (if e=0 then ZH else 0) (if e=0 then top else 0) (if e=0 then s else X7)
def Fg (B:Nat) (h':Hp) (v':Value) (kl:List Nat) (ZH top:Int) (s:List Bool) (plain:List Nat):Prop:=∃cw w,v'=.tuple [cw,w,.int .i64 (WS kl.length ZH top s plain.length)].toArray ∧
 cK B h' cw (WS kl.length ZH top s plain.length) kl (ZH+1) top s∧Z0 B 5 h' w (if WS kl.length ZH top s plain.length=0 then AH kl ZH.toNat plain else [])
theorem Ot (n:Nat) (ZH top:Int) (s:List Bool):Xl n ZH top s=0∨Xl n ZH top s=5:=by
 unfold Xl
 repeat' split
 all_goals simp
theorem Ou {n:Nat} {ZH top:Int} {s:List Bool} (e:Xl n ZH top s=0):n=32∧0≤ZH∧ZH≤1073741824∧0≤top∧top≤1073741824:=by
 unfold Xl at e
 split at e
 ·cases e
 ·omega
theorem wrZ {G:Hp} {b:Nat} (hx:G[b]? = some (.cells Ug.toArray 75)) {w:List Value} (h11:w.length=11) (h1:w.all Z7=true):wr G ⟨b,0,none⟩ w=some (G.setIfInBounds b (.cells w.toArray 75)):=by
 rw[ZS hx 0 w,ZP (by rw[h11];rfl),if_pos ⟨by rw[h11];exact Nat.le_refl _,h1⟩]
set_option maxHeartbeats 1000000 in
theorem Dm (T:World) (h:Hp) (k u:Value) (kl plain:List Nat) (ZH top:Int) (s:List Bool) (hs:s.length=8) (sk:Bs h k kl) (sp:Bs h u plain) (ck:Ta k) :
  Zd Tryz.prog T 73 #[.agg (ZQ k ZH top s).toArray,u] h fun v' h'=>Fg h.size h' v' kl ZH top s plain∧Zg h.size h h':=by
 obtain⟨p,c,rfl,_⟩:=sk.open
 obtain⟨q,d,rfl,_⟩:=sp.open
 have Wp:=Yb (.slice p kl.length c) ZH top s hs
 have tk:=Xm Wp
 refine Zd.XO (args:=[_,_]) Tryz.func73 rfl rfl rfl rfl ?_
 simp -implicitDefEqProofs only[go_sem,↓reduceIte,Wp,tk]
 have VF:Zg h.size h ((h.push (.cells (ZQ (.slice p kl.length c) ZH top s).toArray 75)).push (.cells Ug.toArray 75)):=by (repeat' (first|exact Zg.refl _ _|assumption|refine Zg.add ?_ _|refine Zg.Zl ?_ (by first|omega|(simp;omega)) _|refine Zg.trans (by assumption) ?_))
 refine (P9 T _ p kl.length c ZH top s hs).use ?_
 rintro _ g1 ⟨rfl,b1⟩
 have x0:g1[h.size]? = some (.cells (ZQ (.slice p kl.length c) ZH top s).toArray 75):=b1.get (by simp only[Array.size_push];omega) (by simp only[Array.getElem?_push,Array.size_push,IntWalk.iteOmega,↓reduceIte])
 have x1:g1[h.size+1]? = some (.cells Ug.toArray 75):=b1.get (by simp only[Array.size_push];omega) (by simp only[Array.getElem?_push,Array.size_push,IntWalk.iteOmega,↓reduceIte];rfl)
 have Q8:Zg h.size h g1:=VF.trans (b1.mono (by simp;omega))
 have z1:=Za x1
 clear b1 VF
 have TE:WS kl.length ZH top s plain.length=if Xl kl.length ZH top s≠0 then 5 else if 2000<plain.length then 1 else if ZH=1073741824 then 8 else 0:=rfl
 unfold Fg cK
 obtain⟨E,hE⟩:=Zy (WS kl.length ZH top s plain.length)
 rw[←hE]at TE ⊢
 have wz:=wrZ x1 (w:=[.slice none 0 0,.int .i64 0,.int .i64 0,.bool false,.bool false,.bool false,.bool false,.bool false,.bool false,.bool false,.bool false]) rfl rfl
 have qG:Zg h.size h (g1.setIfInBounds (h.size+1) (.cells #[.slice none 0 0,.int .i64 0,.int .i64 0,.bool false,.bool false,.bool false,.bool false,.bool false,.bool false,.bool false,.bool false] 75)):=Q8.Zl (by omega) _
 by_cases e0:Xl kl.length ZH top s=0
 ·obtain⟨hk,s0,s1,t0,t1⟩:=Ou e0
  rw[if_neg (by simp[e0])]at TE
  by_cases hm:2000<plain.length
  ·rw[if_pos hm]at TE
   have ML:2000<(plain.length:Int):=by omega
   simp -implicitDefEqProofs only[go_sem,↓reduceIte,e0,ML,wz,z1]
   exact⟨⟨_,_,by rw[TE];rfl,⟨_,rfl,Z0.nil _ _ _⟩,Z0.nil _ _ _⟩,qG⟩
  ·rw[if_neg hm]at TE
   have ML:¬2000<(plain.length:Int):=by omega
   have y1:V.hc g1 ⟨h.size,1,none⟩=some (.int .i64 ZH):=by rw[Zh x0];rfl
   have y0:V.hc g1 ⟨h.size,0,none⟩=some (.slice p kl.length c):=by rw[Zh x0];rfl
   by_cases hf:ZH=1073741824
   ·rw[if_pos hf]at TE
    have yZ:(ZH=1073741824)=True:=eq_true hf
    simp -implicitDefEqProofs only[go_sem,↓reduceIte,e0,ML,y1,yZ,wz,z1]
    exact⟨⟨_,_,by rw[TE];rfl,⟨_,rfl,Z0.nil _ _ _⟩,Z0.nil _ _ _⟩,qG⟩
   ·rw[if_neg hf]at TE
    rw[TE]
    obtain⟨n,rfl⟩:∃n:Nat,ZH=n:=⟨ZH.toNat,by omega⟩
    rw[Int.toNat_natCast]
    simp -implicitDefEqProofs only[go_sem,↓reduceIte,e0,ML,y1,hf]
    refine (Dl T _ n (by omega)).use ?_
    rintro vh g2 ⟨oh,b2⟩
    have z2:=b2.size
    have x0':=b2.get (by omega) x0
    have xx:=b2.get (by omega) x1
    have y0':V.hc g2 ⟨h.size,0,none⟩=some (.slice p kl.length c):=by rw[Zh x0'];rfl
    have TN:=Q8.trans (b2.mono Q8.size)
    have O3:h.size<g2.size:=by omega
    simp -implicitDefEqProofs only[go_sem,↓reduceIte]
    refine VS.w (g2.size) [] (.q 0 (.q 1 (.q 2 (.q 4 (.q 5 (.s 3 (.s 6 (.q 7 (.q 8 (.q 9 (.q 10 (.q 11 .nil)))))))))))) mixed (by kernel_rfl) ?_
    simp -implicitDefEqProofs only[go_sem,↓reduceIte,y0',O3]
    refine (Oq T _ _ _ oh.bs (by simp[YU])).use ?_
    rintro vn g3 ⟨on,b3⟩
    have z3:=b3.size
    have b3T:Zg g2.size g2 g3=True:=eq_true b3
    simp -implicitDefEqProofs only[go_sem,↓reduceIte,b3T]
    refine (tU T _ _ _ _ _ kl (X6 (YU n)) (YU n) plain ((sk.Ya TN).Ya b3) on.bs (oh.bs.Ya b3) ((sp.Ya TN).Ya b3) ck on.cap).use ?_
    rintro _ g4 ⟨⟨w4,rfl,o4⟩,b4⟩
    have z4:=b4.size
    have eS:X4 kl.length (X6 (YU n)).length (YU n).length plain.length 2000=0:=by
     unfold X4 X6 YU;rw[if_neg];simp;omega
    rw[eS,if_pos rfl]at o4
    rw[eS]
    have CE:Zg g2.size g2 g4:=b3.trans (b4.mono z3)
    have nq:Zg g2.size g2 g4=True:=eq_true CE
    have ZmN:=CE.get (by omega) x0'
    have ZmO:=CE.get (by omega) xx
    have cC:=TN.trans (CE.mono TN.size)
    have rC:rd g4 ⟨h.size,0,none⟩ 11=some (ZQ (.slice p kl.length c) n top s):=Zp ZmN Wp
    simp -implicitDefEqProofs only[go_sem,↓reduceIte,nq,rC]
    refine (mm T _ _ kl n top s hs (sk.Ya cC) (by omega)).use ?_
    rintro _ g5 ⟨⟨w5,rfl,o5⟩,b5⟩
    have z5:=b5.size
    obtain⟨pw,cw,rfl,_⟩:=o5.open
    have ZeR:=b5.get (by omega) ZmO
    have MC:=Yb (.slice pw kl.length cw) n top s hs
    have xC:=Xm MC
    have oD:=Qn (p:=pw) (n:=kl.length) (c:=cw) n top s
    have lpD:∀v,Ys [v,.int .i64 0,.int .i64 0,.bool false,.bool false,.bool false,.bool false,.bool false,.bool false,.bool false,.bool false] 0 (ZQ (.slice pw kl.length cw) n top s)=ZQ (.slice pw kl.length cw) n top s:=fun v=>ZP MC
    have nD:nth (ZQ (.slice pw kl.length cw) n top s) 1=some (.int .i64 n):=rfl
    have e1:(n:Int)+1=((n+1:Nat):Int):=rfl
    have sD:(ZQ (.slice pw kl.length cw) n top s).set 1 (.int .i64 ((n+1:Nat):Int))=ZQ (.slice pw kl.length cw) ((n+1:Nat):Int) top s:=rfl
    have HE:=Yb (.slice pw kl.length cw) ((n+1:Nat):Int) top s hs
    have ZeS:=Xm HE
    have oD':=Qn (p:=pw) (n:=kl.length) (c:=cw) ((n+1:Nat):Int) top s
    simp -implicitDefEqProofs only[go_sem,↓reduceIte,MC,xC,oD,lpD,nD,e1,sD]
    have rJ:rd (g5.push (.cells (ZQ (.slice pw kl.length cw) ((n+1:Nat):Int) top s).toArray 75)) ⟨g5.size,0,none⟩ 11=some (ZQ (.slice pw kl.length cw) ((n+1:Nat):Int) top s):=Zp Zb HE
    have xJ:(g5.push (.cells (ZQ (.slice pw kl.length cw) ((n+1:Nat):Int) top s).toArray 75))[g5.size]? = some (.cells (ZQ (.slice pw kl.length cw) ((n+1:Nat):Int) top s).toArray 75):=Zb
    have xZ:(g5.push (.cells (ZQ (.slice pw kl.length cw) ((n+1:Nat):Int) top s).toArray 75))[h.size+1]? = some (.cells Ug.toArray 75):=by rw[Zr (by omega)];exact ZeR
    have hB5:=cC.trans (b5.mono cC.size)
    have hBJ:Zg h.size h (g5.push (.cells (ZQ (.slice pw kl.length cw) ((n+1:Nat):Int) top s).toArray 75)):=hB5.Yh hB5.size _
    have ohJ:=(oh.Ya (CE.trans (b5.mono (by omega))) (Nat.le_refl _)).push (.cells (ZQ (.slice pw kl.length cw) ((n+1:Nat):Int) top s).toArray 75)
    have owJ:=o5.push (.cells (ZQ (.slice pw kl.length cw) ((n+1:Nat):Int) top s).toArray 75)
    have o4J:=(o4.Ya b5 (Nat.le_refl _)).push (.cells (ZQ (.slice pw kl.length cw) ((n+1:Nat):Int) top s).toArray 75)
    have zJ:(g5.push (.cells (ZQ (.slice pw kl.length cw) ((n+1:Nat):Int) top s).toArray 75)).size=g5.size+1:=by simp
    have ZD:=oh.own.lt
    have lI:=oh.own.ZF
    have ZeT:=o5.own.ZF
    have ZxP:=o5.own.lt
    have lS:(HC kl (X6 (YU n)) (YU n) plain).length≤2016:=by
     have l1:=WN kl 1 (X6 (YU n)) plain
     have l2:(QF kl (X6 (YU n)) (YU n) (Of kl 1 (X6 (YU n)) plain)).length≤16:=MY _ _
     unfold HC;rw[List.length_append];omega
    have lh:(YU n).length=4:=rfl
    obtain⟨J,hJ⟩:=Zy (g5.push (.cells (ZQ (.slice pw kl.length cw) ((n+1:Nat):Int) top s).toArray 75))
    rw[←hJ]at rJ xJ xZ hBJ ohJ owJ o4J zJ ⊢
    clear hJ
    have key:∀v' h',Z0 g1.size 5 h' v' (YU n++HC kl (X6 (YU n)) (YU n) plain)→Zg g1.size J h'→VZ (ZO vh) J h' →
      rd h' ⟨g5.size,0,none⟩ 11=some (ZQ (.slice pw kl.length cw) ((n+1:Nat):Int) top s)∧wr h' ⟨h.size+1,0,none⟩ (ZQ (.slice pw kl.length cw) ((n+1:Nat):Int) top s)=some (h'.setIfInBounds (h.size+1) (.cells (ZQ (.slice pw kl.length cw) ((n+1:Nat):Int) top s).toArray 75)) ∧
      (Zg (h.size+1) J h'=True)∧(Zg (h.size+1) J (h'.setIfInBounds (h.size+1) (.cells (ZQ (.slice pw kl.length cw) ((n+1:Nat):Int) top s).toArray 75))=True)∧h.size+1<h'.size ∧
      Z0 h.size 5 (h'.setIfInBounds (h.size+1) (.cells (ZQ (.slice pw kl.length cw) ((n+1:Nat):Int) top s).toArray 75)) (.slice pw kl.length cw) kl ∧
      Z0 h.size 5 (h'.setIfInBounds (h.size+1) (.cells (ZQ (.slice pw kl.length cw) ((n+1:Nat):Int) top s).toArray 75)) v' (AH kl n plain) ∧
      Zg h.size h (h'.setIfInBounds (h.size+1) (.cells (ZQ (.slice pw kl.length cw) ((n+1:Nat):Int) top s).toArray 75)):=by
     intro v' h' RH XN RJ
     have xZ':=XN.get (k:=h.size+1) (by omega) xZ
     have xJ':h'[g5.size]? = some (.cells (ZQ (.slice pw kl.length cw) ((n+1:Nat):Int) top s).toArray 75):=by
      rw[RJ.block g5.size (by omega) (fun e=>by have:=ZD _ e;omega)];exact xJ
     have ow':=owJ.Lv RJ (fun b hb e=>by have:=ZeT b hb;have:=ZD _ e;omega)
     have Gz:Zg (h.size+1) J h':=XN.mono (by omega)
     exact⟨Zp xJ' HE,wrZ xZ' HE oD',eq_true Gz,eq_true (Gz.Zl (Nat.le_refl _) _),Za xZ',(ow'.ZT (by omega) _).mono (by omega),(RH.ZT (by omega) _).mono (by omega),(hBJ.trans (XN.mono (by omega))).Zl (by omega) _⟩
    refine VS.w (h.size+1) [] (.q 1 (.q 2 (.or 0 (.s 3 (.s 4 (.q 5 (.q 6 .nil)))) (.s 3 (.s 0 (.s 4 (.q 5 (.q 6 .nil)))))))) mixed (by kernel_rfl) ?_
    simp -implicitDefEqProofs only[go_sem,↓reduceIte,rJ]
    refine⟨?_,?_⟩
    ·refine Zw (E:=5) (B:=g1.size) YC Tryz.underlying34 WH VA Vz ohJ (by omega) o4J.bs (by omega) ?_
     intro v' h' RH XN RJ
     obtain⟨k1,k2,k3,k4,k5,k6,k7,k8⟩:=key v' h' RH XN RJ
     simp -implicitDefEqProofs only[go_sem,↓reduceIte,k1,k2,k3,k4,k5,HE,ZeS]
     exact⟨⟨_,_,rfl,⟨_,rfl,k6⟩,k7⟩,k8⟩
    ·refine Zw (E:=5) (B:=g1.size) YC Tryz.underlying34 WH VA Vz ohJ (by omega) o4J.bs (by omega) ?_
     intro v' h' RH XN RJ
     obtain⟨k1,k2,k3,k4,k5,k6,k7,k8⟩:=key v' h' RH XN RJ
     simp -implicitDefEqProofs only[go_sem,↓reduceIte,k1,k2,k3,k4,k5,HE,ZeS]
     exact⟨⟨_,_,rfl,⟨_,rfl,k6⟩,k7⟩,k8⟩
 ·rw[if_pos e0]at TE
  have e5:=(Ot kl.length ZH top s).resolve_left e0
  simp -implicitDefEqProofs only[go_sem,↓reduceIte,e5,wz,z1]
  exact⟨⟨_,_,by rw[TE];rfl,⟨_,rfl,Z0.nil _ _ _⟩,Z0.nil _ _ _⟩,qG⟩
def Dn (top:Int) (s:List Bool) (n:Nat):Bool:=decide ((n:Int)<top-8)||(decide ((n:Int)<top)&&s.getD ((n:Int)-(top-8)).toNat false)
theorem Zat (T:World) (h:Hp) (k:Value) (ZH top:Int) (s:List Bool) (n:Nat) (hs:s.length=8) (t0:0≤top) (t1:top≤1073741824) (hn:n<1073741824) :
  Zd Tryz.prog T 38 #[.agg (ZQ k ZH top s).toArray,.int .i64 n] h fun v' h'=>v'=.bool (Dn top s n)∧Zg h.size h h':=by
 have Wp:=Yb k ZH top s hs
 have tk:=Xm Wp
 have n2:nth (ZQ k ZH top s) 2=some (.int .i64 top):=rfl
 refine Zd.Zj (args:=[_,_]) Tryz.func38 rfl rfl rfl rfl ?_
 unfold Dn
 by_cases q1:(n:Int)<top-8
 ·have d1:decide ((n:Int)<top-8)=true:=decide_eq_true q1
  simp -implicitDefEqProofs only[go_sem,↓reduceIte,Wp,tk,n2,q1,d1,Bool.true_or]
 ·have d1:decide ((n:Int)<top-8)=false:=decide_eq_false q1
  by_cases q2:(n:Int)<top
  ·have d2:decide ((n:Int)<top)=true:=decide_eq_true q2
   obtain⟨i,hi⟩:∃i:Nat,(n:Int)-(top-8)=i:=⟨((n:Int)-(top-8)).toNat,by omega⟩
   have hi8:i<8:=by omega
   have ZmS:(i:Int)<8:=by omega
   have n3:nth (ZQ k ZH top s) (3+i)=some (.bool (s.getD i false)):=by
    have:=SJ s i (by omega)
    rw[Ym]at this ⊢
    rw[←this]
    show (k :: .int .i64 ZH :: .int .i64 top :: s.map Value.bool)[3+i]? = _
    rw[Nat.add_comm];rfl
   simp -implicitDefEqProofs only[go_sem,↓reduceIte,Wp,tk,n2,q1,q2,d1,d2,hi,ZmS,Int.toNat_natCast,n3,Bool.false_or]
  ·have d2:decide ((n:Int)<top)=false:=decide_eq_false q2
   simp -implicitDefEqProofs only[go_sem,↓reduceIte,Wp,tk,n2,q1,q2,d1,d2,Bool.false_or]
theorem AI (k:Value) (ZH top:Int) (s t:List Bool) (hs:s.length=8) (ht:t.length=8):Ys (ZQ k ZH top s) 3 (t.map Value.bool)=ZQ k ZH top t:=by
 have:=UW [k,.int .i64 ZH,.int .i64 top] (s.map Value.bool) (t.map Value.bool)
 rw[ZP (by simp[hs,ht])]at this
 exact this
set_option maxHeartbeats 1000000 in
theorem tW (T:World) (h:Hp) (k:Value) (kl:List Nat) (ZH top:Int) (s:List Bool) (n:Nat) (hs:s.length=8) (sk:Bs h k kl) (hk:kl.length≤140737488355328) (t0:0≤top) (t1:top≤1073741824) (hn:n<1073741824) (hm:¬(n:Int)<top-8) :
  Zd Tryz.prog T 41 #[.agg (ZQ k ZH top s).toArray,.int .i64 n] h fun v' h'=>GQ h.size h' v' kl ZH (max top (n+1)) (Xw (Te top s 8++[(n:Int)]) (max top (n+1)))∧Zg h.size h h':=by
 obtain⟨p,c,rfl,_⟩:=sk.open
 have Wp:=Yb (.slice p kl.length c) ZH top s hs
 have tk:=Xm Wp
 refine Zd.XO (args:=[_,_]) Tryz.func41 rfl rfl rfl rfl ?_
 simp -implicitDefEqProofs only[go_sem,↓reduceIte,Wp,tk]
 have VF:Zg h.size h ((h.push (.cells (ZQ (.slice p kl.length c) ZH top s).toArray 75)).push (.cells Ug.toArray 75)):=by (repeat' (first|exact Zg.refl _ _|assumption|refine Zg.add ?_ _|refine Zg.Zl ?_ (by first|omega|(simp;omega)) _|refine Zg.trans (by assumption) ?_))
 refine (mm T _ _ kl ZH top s hs (sk.Ya VF) hk).use ?_
 rintro _ g1 ⟨⟨w,rfl,o1⟩,b1⟩
 have x0:g1[h.size]? = some (.cells (ZQ (.slice p kl.length c) ZH top s).toArray 75):=b1.get (by simp only[Array.size_push];omega) (by simp only[Array.getElem?_push,Array.size_push,IntWalk.iteOmega,↓reduceIte])
 have x1:g1[h.size+1]? = some (.cells Ug.toArray 75):=b1.get (by simp only[Array.size_push];omega) (by simp only[Array.getElem?_push,Array.size_push,IntWalk.iteOmega,↓reduceIte]<;>rfl)
 have Q8:Zg h.size h g1:=VF.trans (b1.mono (by simp;omega))
 have z1:=Za x1
 simp only[Array.size_push]at o1
 obtain⟨pw,cw,rfl,_⟩:=o1.open
 clear b1 VF
 have y2:V.hc g1 ⟨h.size,2,none⟩=some (.int .i64 top):=by rw[Zh x0];rfl
 have MC:=Yb (.slice pw kl.length cw) ZH top s hs
 have xC:=Xm MC
 have oD:=Qn (p:=pw) (n:=kl.length) (c:=cw) ZH top s
 have lpD:∀v,Ys [v,.int .i64 0,.int .i64 0,.bool false,.bool false,.bool false,.bool false,.bool false,.bool false,.bool false,.bool false] 0 (ZQ (.slice pw kl.length cw) ZH top s)=ZQ (.slice pw kl.length cw) ZH top s:=fun v=>ZP MC
 have e1:(n:Int)+1=((n+1:Nat):Int):=rfl
 obtain⟨TP,hTP⟩:∃TP:Int,TP=max top (n+1):=⟨_,rfl⟩
 have lL:(if ((n+1:Nat):Int)>top then ((n+1:Nat):Int) else top)=TP:=by rw[hTP];split<;>omega
 have sD:(ZQ (.slice pw kl.length cw) ZH top s).set 2 (.int .i64 TP)=ZQ (.slice pw kl.length cw) ZH TP s:=rfl
 have ZmT:=Yb (.slice pw kl.length cw) ZH TP s hs
 have lE:Ys (ZQ (.slice pw kl.length cw) ZH TP s) 3 [.bool false,.bool false,.bool false,.bool false,.bool false,.bool false,.bool false,.bool false]=ZQ (.slice pw kl.length cw) ZH TP (Xw (Te top s 0) TP):=AI (.slice pw kl.length cw) ZH TP s X7 hs rfl
 have y0r:rd g1 ⟨h.size,3,none⟩ 8=some (s.map Value.bool):=by
  have Nu:(s.map Value.bool).length=8:=by rw[List.length_map,hs]
  have:=Z5 x0 (o:=3) (n:=8) (by rw[Wp];omega)
  rw[this]
  have e:(ZQ (.slice p kl.length c) ZH top s).drop 3=s.map Value.bool:=rfl
  rw[e,Xm Nu]
 rw[←hTP]
 simp -implicitDefEqProofs only[go_sem,↓reduceIte,MC,xC,oD,lpD,y2,e1,lL,sD,ZmT,lE,y0r]
 obtain⟨bo,hbo⟩:∃b,b=g1.size:=⟨_,rfl⟩
 obtain⟨J,hJ⟩:=Zy (g1.push (.cells (ZQ (.slice pw kl.length cw) ZH TP (Xw (Te top s 0) TP)).toArray 75))
 have J5:J[bo]? = some (.cells (ZQ (.slice pw kl.length cw) ZH TP (Xw (Te top s 0) TP)).toArray 75):=by rw[hJ,hbo];exact Zb
 have J0:J[h.size]? = some (.cells (ZQ (.slice p kl.length c) ZH top s).toArray 75):=by rw[hJ,Zr (by omega)];exact x0
 have J1:J[h.size+1]? = some (.cells Ug.toArray 75):=by rw[hJ,Zr (by omega)];exact x1
 have JB:Zg h.size h J:=by rw[hJ];exact Q8.Yh Q8.size _
 have Jo:Z0 (h.size+1+1) 5 J (.slice pw kl.length cw) kl:=by rw[hJ];exact o1.push _
 have Jlt:∀b,ZO (.slice pw kl.length cw)=some b→b<bo:=fun b hb=>by have:=o1.own.lt b hb;omega
 have Jsz:J.size=bo+1:=by rw[hJ,Array.size_push,hbo]
 rw[←hJ,←hbo]
 clear hJ
 refine VS.ZV (fun F g=>F 1=.int .i64 n∧F 2=.pointer (some ⟨h.size,0,none⟩)∧F 4=.pointer (some ⟨h.size+1,0,none⟩)∧F 5=.pointer (some ⟨bo,0,none⟩)∧F 20=.agg (s.map Value.bool).toArray∧∃i:Nat,i≤8∧F 21=.int .i64 i∧g=J.setIfInBounds bo (.cells (ZQ (.slice pw kl.length cw) ZH TP (Xw (Te top s i) TP)).toArray 75))
  (fun F _=>8-(vi (F 21)).toNat) rfl ⟨rfl,rfl,rfl,rfl,rfl,0,by omega,rfl,(Uh J5).symm⟩ ?_
 rintro F g ⟨f1,f2,f4,f5,f20,i,hi,f21,rfl⟩
 have hx:=ZR (o:=.cells (ZQ (.slice pw kl.length cw) ZH TP (Xw (Te top s i) TP)).toArray 75) J5
 have Sc:(J.setIfInBounds bo (.cells (ZQ (.slice pw kl.length cw) ZH TP (Xw (Te top s i) TP)).toArray 75))[h.size]? = some (.cells (ZQ (.slice p kl.length c) ZH top s).toArray 75):=by rw[Array.getElem?_setIfInBounds,if_neg (by omega)];exact J0
 have sl8:=WY (Te top s i) TP
 have YA:=fw top s i
 obtain⟨SS,hSS⟩:=Zy (Xw (Te top s i) TP)
 by_cases ZD:i<8
 ·have ZL:(i:Int)<8:=by omega
  rw[←hSS]at hx Sc sl8 ⊢
  obtain⟨G,hG⟩:=Zy (J.setIfInBounds bo (.cells (ZQ (.slice pw kl.length cw) ZH TP SS).toArray 75))
  rw[←hG]at hx Sc ⊢
  have n1:=SJ s i (by omega)
  have y2:V.hc G ⟨h.size,2,none⟩=some (.int .i64 top):=by rw[Zh Sc];rfl
  have y5:V.hc G ⟨bo,2,none⟩=some (.int .i64 TP):=by rw[Zh hx];rfl
  obtain⟨b,hb⟩:=Zy (s.getD i false)
  rw[←hb]at n1 YA
  cases b with
  | false=>
   rw[if_neg (by decide),List.append_nil]at YA
   simp -implicitDefEqProofs only[go_sem,↓reduceIte,f1,f2,f4,f5,f20,f21,ZL,Int.toNat_natCast,n1,y2,y5]
   refine⟨⟨f1,f2,f4,f5,f20,i+1,ZD,rfl,?_⟩,?_⟩
   ·rw[YA,hG,hSS]
   ·simp only[vi,Zk,↓reduceIte,f21];omega
  | true=>
   rw[if_pos rfl]at YA
   have Aw:=NP (Te top s i) TP (top-8+(i:Int)) (by omega)
   rw[←YA,←hSS]at Aw
   have ex:top-8+(i:Int)-TP+8=top+(i:Int)-TP:=by omega
   rw[ex]at Aw
   by_cases hk0:0≤top+(i:Int)-TP
   ·rw[if_pos hk0]at Aw
    obtain⟨j,hj⟩:∃j:Nat,top+(i:Int)-TP=j:=⟨(top+(i:Int)-TP).toNat,by omega⟩
    rw[hj,Int.toNat_natCast]at Aw
    have hj8:(j:Int)<8:=by omega
    have hj0:(0:Int)≤(j:Int):=by omega
    have ZxU:j<8:=by omega
    have hlen:=Yb (.slice pw kl.length cw) ZH TP SS sl8
    have w1:Jx G ⟨bo,3+j,none⟩ (.bool true)=some (G.setIfInBounds bo (.cells (ZQ (.slice pw kl.length cw) ZH TP (SS.set j true)).toArray 75)):=by
     rw[Yz hx,if_pos ⟨by rw[hlen];omega,rfl⟩,ED]
    simp -implicitDefEqProofs only[go_sem,↓reduceIte,f1,f2,f4,f5,f20,f21,ZL,Int.toNat_natCast,n1,y2,y5,hj,hj0,hj8,w1]
    refine⟨⟨f1,f2,f4,f5,f20,i+1,ZD,rfl,?_⟩,?_⟩
    ·rw[Aw,hG,set_set]
    ·simp only[vi,Zk,↓reduceIte,f21];omega
   ·rw[if_neg hk0]at Aw
    simp -implicitDefEqProofs only[go_sem,↓reduceIte,f1,f2,f4,f5,f20,f21,ZL,Int.toNat_natCast,n1,y2,y5,hk0]
    refine⟨⟨f1,f2,f4,f5,f20,i+1,ZD,rfl,?_⟩,?_⟩
    ·rw[Aw,hG]
    ·simp only[vi,Zk,↓reduceIte,f21];omega
 ·have YJ:¬(i:Int)<8:=by omega
  obtain rfl:i=8:=by omega
  have c8:((8:Nat):Int)=8:=rfl
  rw[c8]at f21 YJ
  have Aw:=NP (Te top s 8) TP (n:Int) (by omega)
  rw[if_pos (by omega),←hSS]at Aw
  have Qy:(J.setIfInBounds bo (.cells (ZQ (.slice pw kl.length cw) ZH TP (Xw (Te top s 8) TP)).toArray 75))[h.size+1]? = some (.cells Ug.toArray 75):=by rw[Array.getElem?_setIfInBounds,if_neg (by omega)];exact J1
  have HB:=JB.Zl (b:=bo) (by omega) (.cells (ZQ (.slice pw kl.length cw) ZH TP (Xw (Te top s 8) TP)).toArray 75)
  have HO:Z0 (h.size+1+1) 5 (J.setIfInBounds bo (.cells (ZQ (.slice pw kl.length cw) ZH TP (Xw (Te top s 8) TP)).toArray 75)) (.slice pw kl.length cw) kl:=
   Jo.Lv (x:=some bo) ⟨by simp,fun b hb Yw=>by rw[Array.getElem?_setIfInBounds,if_neg (fun e=>Yw (by rw[e]))]⟩ (fun b hb e=>by have:=Jlt b hb;simp at e;omega)
  rw[←hSS]at hx Qy HB HO sl8 ⊢
  obtain⟨j,hj⟩:∃j:Nat,(n:Int)-(TP-8)=j:=⟨((n:Int)-(TP-8)).toNat,by omega⟩
  have hj2:(n:Int)-TP+8=j:=by omega
  rw[hj2,Int.toNat_natCast]at Aw
  have hj8:(j:Int)<8:=by omega
  have hlen:=Yb (.slice pw kl.length cw) ZH TP SS sl8
  obtain⟨G,hG⟩:=Zy (J.setIfInBounds bo (.cells (ZQ (.slice pw kl.length cw) ZH TP SS).toArray 75))
  rw[←hG]at hx Qy HB HO ⊢
  have y5:V.hc G ⟨bo,2,none⟩=some (.int .i64 TP):=by rw[Zh hx];rfl
  have w1:Jx G ⟨bo,3+j,none⟩ (.bool true)=some (G.setIfInBounds bo (.cells (ZQ (.slice pw kl.length cw) ZH TP (SS.set j true)).toArray 75)):=by
   rw[Yz hx,if_pos ⟨by rw[hlen];omega,rfl⟩,ED]
  rw[Aw]
  have ZeV:(SS.set j true).length=8:=by rw[List.length_set];exact sl8
  obtain⟨S2,hS2⟩:=Zy (SS.set j true)
  rw[←hS2]at w1 ZeV ⊢
  have cL:=Yb (.slice pw kl.length cw) ZH TP S2 ZeV
  have o2:=Qn (p:=pw) (n:=kl.length) (c:=cw) ZH TP S2
  have tk2:=Xm cL
  have hxb:=ZR (o:=.cells (ZQ (.slice pw kl.length cw) ZH TP S2).toArray 75) hx
  have rb:=Zp hxb cL
  have ZmW:(G.setIfInBounds bo (.cells (ZQ (.slice pw kl.length cw) ZH TP S2).toArray 75))[h.size+1]? = some (.cells Ug.toArray 75):=by rw[Array.getElem?_setIfInBounds,if_neg (by omega)];exact Qy
  have w2:=wrZ ZmW cL o2
  have k5:=Za Qy
  have HO2:Z0 (h.size+1+1) 5 (G.setIfInBounds bo (.cells (ZQ (.slice pw kl.length cw) ZH TP S2).toArray 75)) (.slice pw kl.length cw) kl:=
   HO.Lv (x:=some bo) ⟨by simp,fun b hb Yw=>by rw[Array.getElem?_setIfInBounds,if_neg (fun e=>Yw (by rw[e]))]⟩ (fun b hb e=>by have:=Jlt b hb;simp at e;omega)
  have HB2:=(HB.Zl (b:=bo) (by omega) (.cells (ZQ (.slice pw kl.length cw) ZH TP S2).toArray 75)).Zl (b:=h.size+1) (by omega) (.cells (ZQ (.slice pw kl.length cw) ZH TP S2).toArray 75)
  simp -implicitDefEqProofs only[go_sem,↓reduceIte,f1,f2,f4,f5,f20,f21,YJ,y5,hj,hj8,Int.toNat_natCast,w1,rb,w2,cL,tk2,k5]
  exact⟨⟨_,rfl,(HO2.ZT (by omega) _).mono (by omega)⟩,HB2⟩
theorem nr {a b c d:Nat} (ha:a<256) (hb:b<256) (hc:c<256) (hd:d<256):Z9 .or .i64 (Z9 .or .i64 (Z9 .or .i64 (YE .i64 (a:Int) 24) (YE .i64 (b:Int) 16)) (YE .i64 (c:Int) 8)) (d:Int)=((16777216*a+65536*b+256*c+d:Nat):Int):=by
 have e1:YE .i64 (a:Int) 24=((a*16777216:Nat):Int):=Vy ha 24 (by omega)
 have e2:YE .i64 (b:Int) 16=((b*65536:Nat):Int):=Vy hb 16 (by omega)
 have e3:YE .i64 (c:Int) 8=((c*256:Nat):Int):=Vy hc 8 (by omega)
 have f1:a*16777216 ||| b*65536=a*16777216+b*65536:=JY (k:=24) (by omega) (by omega)
 have f2:(a*16777216+b*65536) ||| c*256=a*16777216+b*65536+c*256:=JY (k:=16) (by omega) (by omega)
 rw[e1,e2,e3,RF _ _ (by omega) (by omega),f1,RF _ _ (by omega) (by omega),f2,RF _ _ (by omega) (by omega),JY (k:=8) (by omega) (by omega)]
 congr 1;omega
def Vf (l:List Nat):Nat:=16777216*l.getD 0 0+65536*l.getD 1 0+256*l.getD 2 0+l.getD 3 0
theorem AJ {l:List Nat} (w:∀x∈l,x<256) (hl:4≤l.length):YU (Vf l)=l.take 4:=by
 match l,hl with
 | a :: b :: c :: d :: l,_=>
  have h1:=w a (by simp)
  have h2:=w b (by simp)
  have h3:=w c (by simp)
  have h4:=w d (by simp)
  show [_,_,_,_]=[a,b,c,d]
  have e:Vf (a :: b :: c :: d :: l)=16777216*a+65536*b+256*c+d:=rfl
  rw[e]
  congr 1
  ·omega
  ·congr 1
   ·omega
   ·congr 1
    ·omega
    ·congr 1
     omega
theorem Zav {a b c d:Nat} (ha:a<256) (hb:b<256) (hc:c<256) (hd:d<256):16777216*a+65536*b+256*c+d<4294967296:=by omega
theorem tX (l:List Nat):Vf l=16777216*l.getD 0 0+65536*l.getD 1 0+256*l.getD 2 0+l.getD 3 0:=by unfold Vf;rfl
def UL (kl:List Nat) (ZH top:Int) (s:List Bool) (rc:List Nat):Int:=
 if Xl kl.length ZH top s≠0 then 5 else if 2020<rc.length then 1 else if rc.length<20 then 13 else if 1073741824≤Vf rc then 2 else
 if Dn top s (Vf rc)=true then 7 else Oo kl (X6 (YU (Vf rc))) (YU (Vf rc)) (rc.drop 4)
def cM (kl rc:List Nat):List Nat:=nk kl (X6 (YU (Vf rc))) (rc.drop 4)
def Mb (top:Int) (s:List Bool) (n:Nat):List Bool:=Xw (Te top s 8++[(n:Int)]) (max top (n+1))
def Fh (B:Nat) (h':Hp) (v':Value) (kl:List Nat) (ZH top:Int) (s:List Bool) (rc:List Nat):Prop:=∃cw w,v'=.tuple [cw,w,.int .i64 (UL kl ZH top s rc)].toArray ∧
 cK B h' cw (UL kl ZH top s rc) kl ZH (max top (Vf rc+1)) (Mb top s (Vf rc))∧Z0 B 5 h' w (if UL kl ZH top s rc=0 then cM kl rc else [])
theorem nt {top:Int} {s:List Bool} {n:Nat} (h:¬Dn top s n=true):¬(n:Int)<top-8:=by
 intro ZD
 apply h
 unfold Dn
 rw[decide_eq_true ZD];rfl
set_option maxHeartbeats 2000000 in
theorem Dp (T:World) (h:Hp) (k u:Value) (kl rc:List Nat) (ZH top:Int) (s:List Bool) (hs:s.length=8) (sk:Bs h k kl) (sp:Bs h u rc) (ck:Ta k) (cu:Ta u) :
  Zd Tryz.prog T 22 #[.agg (ZQ k ZH top s).toArray,u] h fun v' h'=>Fh h.size h' v' kl ZH top s rc∧Zg h.size h h':=by
 have qH:=sp.byte
 obtain⟨p,c,rfl,_⟩:=sk.open
 obtain⟨q,d,rfl,xK⟩:=sp.Uz
 have cu:rc.length≤d:=cu
 have Wp:=Yb (.slice p kl.length c) ZH top s hs
 have tk:=Xm Wp
 refine Zd.XO (args:=[_,_]) Tryz.func22 rfl rfl rfl rfl ?_
 simp -implicitDefEqProofs only[go_sem,↓reduceIte,Wp,tk]
 have VF:Zg h.size h ((h.push (.cells (ZQ (.slice p kl.length c) ZH top s).toArray 75)).push (.cells Ug.toArray 75)):=by (repeat' (first|exact Zg.refl _ _|assumption|refine Zg.add ?_ _|refine Zg.Zl ?_ (by first|omega|(simp;omega)) _|refine Zg.trans (by assumption) ?_))
 refine (P9 T _ p kl.length c ZH top s hs).use ?_
 rintro _ g1 ⟨rfl,b1⟩
 have x0:g1[h.size]? = some (.cells (ZQ (.slice p kl.length c) ZH top s).toArray 75):=b1.get (by simp only[Array.size_push];omega) (by simp only[Array.getElem?_push,Array.size_push,IntWalk.iteOmega,↓reduceIte])
 have x1:g1[h.size+1]? = some (.cells Ug.toArray 75):=b1.get (by simp only[Array.size_push];omega) (by simp only[Array.getElem?_push,Array.size_push,IntWalk.iteOmega,↓reduceIte]<;>rfl)
 have Q8:Zg h.size h g1:=VF.trans (b1.mono (by simp;omega))
 have z1:=Za x1
 clear b1 VF
 have TE:UL kl ZH top s rc=if Xl kl.length ZH top s≠0 then 5 else if 2020<rc.length then 1 else if rc.length<20 then 13 else if 1073741824≤Vf rc then 2 else
 if Dn top s (Vf rc)=true then 7 else Oo kl (X6 (YU (Vf rc))) (YU (Vf rc)) (rc.drop 4):=rfl
 unfold Fh cK cM
 have hbe:Vf rc=16777216*rc.getD 0 0+65536*rc.getD 1 0+256*rc.getD 2 0+rc.getD 3 0:=tX rc
 have h4:4≤rc.length→YU (Vf rc)=rc.take 4:=fun hl=>AJ qH hl
 obtain⟨E,hE⟩:=Zy (UL kl ZH top s rc)
 rw[←hE]at TE ⊢
 clear hE
 obtain⟨n,hn⟩:=Zy (Vf rc)
 rw[←hn]at TE hbe h4 ⊢
 clear hn
 have wz:∀g:Hp,g[h.size+1]? = some (.cells Ug.toArray 75)→wr g ⟨h.size+1,0,none⟩ [.slice none 0 0,.int .i64 0,.int .i64 0,.bool false,.bool false,.bool false,.bool false,.bool false,.bool false,.bool false,.bool false]=some (g.setIfInBounds (h.size+1) (.cells [.slice none 0 0,.int .i64 0,.int .i64 0,.bool false,.bool false,.bool false,.bool false,.bool false,.bool false,.bool false,.bool false].toArray 75)):=fun g hg=>wrZ hg rfl rfl
 have qG:∀g:Hp,Zg h.size h g→Zg h.size h (g.setIfInBounds (h.size+1) (.cells #[.slice none 0 0,.int .i64 0,.int .i64 0,.bool false,.bool false,.bool false,.bool false,.bool false,.bool false,.bool false,.bool false] 75)):=fun g hg=>hg.Zl (by omega) _
 have wz1:=wz g1 x1
 by_cases e0:Xl kl.length ZH top s=0
 ·obtain⟨hk,s0,s1,t0,t1⟩:=Ou e0
  rw[if_neg (by simp[e0])]at TE
  by_cases hm:2020<rc.length
  ·rw[if_pos hm]at TE
   have ML:2020<(rc.length:Int):=by omega
   simp -implicitDefEqProofs only[go_sem,↓reduceIte,e0,ML,wz1,z1]
   exact⟨⟨_,_,by rw[TE];rfl,⟨_,rfl,Z0.nil _ _ _⟩,Z0.nil _ _ _⟩,qG _ Q8⟩
  ·rw[if_neg hm]at TE
   have ML:¬2020<(rc.length:Int):=by omega
   by_cases tY:rc.length<20
   ·rw[if_pos tY]at TE
    have Zaw:(rc.length:Int)<20:=by omega
    simp -implicitDefEqProofs only[go_sem,↓reduceIte,e0,ML,Zaw,wz1,z1]
    exact⟨⟨_,_,by rw[TE];rfl,⟨_,rfl,Z0.nil _ _ _⟩,Z0.nil _ _ _⟩,qG _ Q8⟩
   ·rw[if_neg tY]at TE
    have Zaw:¬(rc.length:Int)<20:=by omega
    obtain⟨bb,oo,rfl,U6,xK⟩:=xK (by intro e;rw[e]at tY;simp at tY)
    have u0:V.hc g1 ⟨bb,oo+0,none⟩=some (.int .u8 (rc.getD 0 0:Nat)):=by rw[Q8.hc (by exact U6)];exact xK 0 (by omega)
    have u1:V.hc g1 ⟨bb,oo+1,none⟩=some (.int .u8 (rc.getD 1 0:Nat)):=by rw[Q8.hc (by exact U6)];exact xK 1 (by omega)
    have u2:V.hc g1 ⟨bb,oo+2,none⟩=some (.int .u8 (rc.getD 2 0:Nat)):=by rw[Q8.hc (by exact U6)];exact xK 2 (by omega)
    have u3:V.hc g1 ⟨bb,oo+3,none⟩=some (.int .u8 (rc.getD 3 0:Nat)):=by rw[Q8.hc (by exact U6)];exact xK 3 (by omega)
    rw[Nat.add_zero]at u0
    have w0:=ZI qH 0
    have w1:=ZI qH 1
    have w2:=ZI qH 2
    have w3:=ZI qH 3
    have h4:=h4 (by omega)
    have s4:=SQ sp (m:=4) (by omega) 4
    rw[←h4]at s4
    generalize rc.getD 0 0=r0 at *
    generalize rc.getD 1 0=r1 at *
    generalize rc.getD 2 0=r2 at *
    generalize rc.getD 3 0=r3 at *
    have ZeW:Unit→_:=fun _=>TE
    clear TE
    have ZlV:n<4294967296:=by rw[hbe];exact Zav w0 w1 w2 w3
    have d4:(4:Int)≤d:=by omega
    have sh:Unit→Z9 .or .i64 (Z9 .or .i64 (Z9 .or .i64 (YE .i64 (r0:Int) 24) (YE .i64 (r1:Int) 16)) (YE .i64 (r2:Int) 8)) (r3:Int)=(n:Int):=fun _=>by rw[nr w0 w1 w2 w3,hbe]
    clear hbe
    simp -implicitDefEqProofs only[go_sem,↓reduceIte,e0,ML,Zaw,d4]
    refine VS.mono (N:=fun F g=>g1=g∧F 1=.slice (some ⟨bb,oo,none⟩) rc.length d∧F 2=.pointer (some ⟨h.size,0,none⟩)∧F 4=.pointer (some ⟨h.size+1,0,none⟩)∧F 8=.slice (some ⟨bb,oo,none⟩) 4 4∧F 9=.int .i64 n) ?_ ?_ (fun _ _ _ h=>h) (fun _ _ h=>h)
    ·refine VS.q mixed (by kernel_rfl) ?_
     simp -implicitDefEqProofs only[go_sem,↓reduceIte,u0,u1,u2,u3]
     exact congrArg _ (sh ())
    clear sh w0 w1 w2 w3
    have TE:=ZeW ()
    clear ZeW
    rintro F _ ⟨rfl,f1,f2,f4,f8,f9⟩
    by_cases hb:1073741824≤n
    ·rw[if_pos hb]at TE
     have XN:(1073741824:Int)≤(n:Int):=by clear TE;omega
     simp -implicitDefEqProofs only[go_sem,↓reduceIte,f1,f2,f4,f8,f9,XN,wz1,z1]
     exact⟨⟨_,_,by rw[TE];rfl,⟨_,rfl,Z0.nil _ _ _⟩,Z0.nil _ _ _⟩,qG _ Q8⟩
    ·rw[if_neg hb]at TE
     have XN:¬(1073741824:Int)≤(n:Int):=by clear TE;omega
     have rC:rd g1 ⟨h.size,0,none⟩ 11=some (ZQ (.slice p kl.length c) ZH top s):=Zp x0 Wp
     simp -implicitDefEqProofs only[go_sem,↓reduceIte,f1,f2,f4,f8,f9,XN,rC]
     refine (Zat T _ _ ZH top s n hs t0 t1 (by clear TE;omega)).use ?_
     rintro _ g2 ⟨rfl,b2⟩
     have x02:=b2.get (Nat.lt_of_succ_lt z1) x0
     have x12:=b2.get z1 x1
     have z2:=b2.size
     have TN:=Q8.trans (b2.mono Q8.size)
     have wz2:=wz g2 x12
     have zl2:=Za x12
     by_cases nu:Dn top s n=true
     ·rw[if_pos nu]at TE
      simp -implicitDefEqProofs only[go_sem,↓reduceIte,f1,f2,f4,f8,f9,nu,wz2,zl2]
      exact⟨⟨_,_,by rw[TE];rfl,⟨_,rfl,Z0.nil _ _ _⟩,Z0.nil _ _ _⟩,qG _ TN⟩
     ·rw[if_neg nu]at TE
      have ZeA:=nt nu
      have ZeX:Dn top s n=false:=by simpa using nu
      have y0:V.hc g2 ⟨h.size,0,none⟩=some (.slice p kl.length c):=by rw[Zh x02];rfl
      have zl0:=Za x02
      have l4:(YU n).length=4:=rfl
      have l12:(X6 (YU n)).length≤1000:=by simp[X6,YU]
      have sbk:=SL sp rfl (k:=4) (by omega) cu (d-4)
      have ZmZ:(4:Int)≤rc.length:=by clear TE;omega
      simp -implicitDefEqProofs only[go_sem,↓reduceIte,f1,f2,f4,f8,f9,ZeX]
      refine VS.w (g2.size) [] (.q 0 (.q 1 (.q 2 (.q 4 (.q 5 (.q 6 (.s 3 (.s 7 (.q 8 (.q 9 (.q 10 (.q 11 (.q 12 .nil))))))))))))) mixed (by kernel_rfl) ?_
      simp -implicitDefEqProofs only[go_sem,↓reduceIte,f1,f2,f4,f8,f9,y0,zl0,ZmZ,QT]
      refine (Oq T _ _ _ (s4.Ya TN) (by rw[l4];decide)).use ?_
      rintro vn g3 ⟨on,b3⟩
      have z3:=b3.size
      have b3T:Zg g2.size g2 g3=True:=eq_true b3
      have hB3:=TN.trans (b3.mono TN.size)
      simp -implicitDefEqProofs only[go_sem,↓reduceIte,f1,f2,f4,f8,f9,b3T]
      refine (tV T _ _ _ _ _ kl (X6 (YU n)) (YU n) (rc.drop 4) (sk.Ya hB3) on.bs (s4.Ya hB3) (sbk.Ya hB3) ck on.cap (show rc.length-4≤d-4 by omega)).use ?_
      rintro _ g4 ⟨⟨w4,rfl,o4⟩,b4⟩
      have z4:=b4.size
      have CE:Zg g2.size g2 g4:=b3.trans (b4.mono z3)
      have nq:Zg g2.size g2 g4=True:=eq_true CE
      rw[←TE]at o4 ⊢
      have x14:=CE.get zl2 x12
      have x04:=CE.get zl0 x02
      have cC:=TN.trans (CE.mono TN.size)
      have wz4:=wz g4 x14
      have zl4:=Za x14
      clear TE
      by_cases hE0:E=0
      ·subst hE0
       rw[if_pos rfl]at o4
       have rC4:rd g4 ⟨h.size,0,none⟩ 11=some (ZQ (.slice p kl.length c) ZH top s):=Zp x04 Wp
       simp -implicitDefEqProofs only[go_sem,↓reduceIte,f1,f2,f4,f8,f9,nq,rC4]
       refine (tW T _ _ kl ZH top s n hs (sk.Ya cC) (by omega) t0 t1 (by omega) ZeA).use ?_
       rintro _ g5 ⟨⟨w5,rfl,o5⟩,b5⟩
       have x15:=b5.get zl4 x14
       have z5:=b5.size
       obtain⟨pw,cw,rfl,_⟩:=o5.open
       have l8:(Mb top s n).length=8:=WY _ _
       have MC:=Yb (.slice pw kl.length cw) ZH (max top ((n:Int)+1)) (Mb top s n) l8
       have oD:=Qn (p:=pw) (n:=kl.length) (c:=cw) ZH (max top ((n:Int)+1)) (Mb top s n)
       have xC:=Xm MC
       have wD:=wrZ x15 MC oD
       have zl5:=Za x15
       rw[show Xw (Te top s 8++[(n:Int)]) (max top ((n:Int)+1))=Mb top s n from rfl]
       have o4':=o4.Ya b5 (Nat.le_refl _)
       obtain⟨C5,hC5⟩:=Zy (ZQ (.slice pw kl.length cw) ZH (max top ((n:Int)+1)) (Mb top s n))
       rw[←hC5]at MC oD xC wD ⊢
       simp -implicitDefEqProofs only[go_sem,↓reduceIte,f1,f2,f4,f8,f9,nq,wD,MC,xC,zl5]
       exact⟨⟨_,_,rfl,⟨_,by rw[hC5],(o5.ZT (by omega) _).mono (by omega)⟩,(o4'.ZT (by omega) _).mono (by omega)⟩,(cC.trans (b5.mono cC.size)).Zl (by omega) _⟩
      ·rw[if_neg hE0]at o4
       simp -implicitDefEqProofs only[go_sem,↓reduceIte,f1,f2,f4,f8,f9,nq,hE0,wz4,zl4]
       exact⟨⟨_,_,rfl,⟨_,rfl,Z0.nil _ _ _⟩,Z0.nil _ _ _⟩,qG _ cC⟩
 ·rw[if_pos e0]at TE
  have e5:=(Ot kl.length ZH top s).resolve_left e0
  simp -implicitDefEqProofs only[go_sem,↓reduceIte,e5,wz1,z1]
  exact⟨⟨_,_,by rw[TE];rfl,⟨_,rfl,Z0.nil _ _ _⟩,Z0.nil _ _ _⟩,qG _ Q8⟩
end Go.Proofs.YtpomedigibbeeaaGreatDoor
