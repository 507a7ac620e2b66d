/- Bytes padded to sixteen, lengths in eight bytes, and the tag of what is sealed, on both sides; no condition but those in the statements. -/
import Derived.Test.YtkfhncfkagcamaaGreatDoorPolg
import Derived.Test.YtkfhncfkagcamaaGreatDoorMix
import Derived.Test.YtkfhncfkagcamaaGreatDoorBytes
import Derived.Test.YtkfhncfkagcamaaGreatDoorVst
import Derived.Test.YtkfhncfkagcamaaGreatDoorW15
import Derived.Test.YtkfhncfkagcamaaGreatDoorLine
import Derived.Test.YtkfhncfkagcamaaGreatDoorW13
namespace Go.Proofs.YtkfhncfkagcamaaGreatDoor
open Go Go.V
set_option linter.unusedSimpArgs false
set_option linter.unusedVariables false
set_option maxRecDepth 100000
def eB (l:List Nat):List Nat:=l++List.replicate ((16-l.length%16)%16) 0
def Eu (n:Nat):List Nat:=(List.range 8).map fun i=>n/256 ^ i%256
def Vn (known XU:List Nat):List Nat:=eB known++eB XU++Eu known.length++Eu XU.length
def Qo (key Zr known XU:List Nat):List Nat:=Br ((Xl key 0 Zr).take 32) (Vn known XU)
theorem Ev (l:List Nat):(eB l).length=l.length+(16-l.length%16)%16:=by simp[eB]
theorem Mv (l:List Nat):(eB l).length≤l.length+15:=by rw[Ev];omega
theorem Js (n:Nat):(Eu n).length=8:=by simp[Eu]
theorem IN (T:World) (h:Hp) (v:Value) (l:List Nat) (s:Bs h v l) (hl:l.length≤4000) :
  Zc Tryz.prog T 86 #[v] h fun v' h'=>Z1 h.size 5 h' v' (eB l)∧Zg h.size h h':=by
 obtain⟨p,c,rfl,Ur⟩:=s.open
 refine Zc.Zi (args:=[_]) Tryz.func86 rfl rfl rfl rfl ?_
 simp -implicitDefEqProofs only[go_sem,↓reduceIte]
 refine Zw (E:=5) (B:=h.size) Yu Tryz.underlying34 Wm Vf Ve (Z1.nil _ _ _) (Nat.le_refl _) s (by simp;omega) ?_
 intro v1 h1 o1 b1 _
 rw[List.nil_append]at o1
 have e1:((l.length:Nat):Int).tmod 16=((l.length%16:Nat):Int):=rfl
 have e2:(16:Int)-((l.length%16:Nat):Int)=((16-l.length%16:Nat):Int):=by omega
 have e3:((16-l.length%16:Nat):Int).tmod 16=(((16-l.length%16)%16:Nat):Int):=rfl
 simp -implicitDefEqProofs only[go_sem,↓reduceIte,e1,e2,e3]
 refine Lc (E:=5) (B:=h.size) Yu Tryz.underlying3 Wm Vf Ve o1 b1.size (by omega) ?_
 intro v2 h2 o2 b2 _
 simp -implicitDefEqProofs only[go_sem,↓reduceIte]
 exact⟨o2,b1.trans b2⟩
theorem IP (T:World) (h:Hp) (n:Nat) (hn:n<9223372036854775808) :
  Zc Tryz.prog T 87 #[.int .i64 n] h fun v' h'=>Z1 h.size 5 h' v' (Eu n)∧Zg h.size h h':=by
 refine Zc.Zi (args:=[_]) Tryz.func87 rfl rfl rfl rfl ?_
 simp -implicitDefEqProofs only[go_sem,↓reduceIte]
 refine VS.ZW (fun F g=>Zg h.size h g∧F 0=.int .i64 n∧∃j:Nat,j≤8∧F 4=.int .i64 (8*j:Nat)∧Z1 h.size 5 g (F 3) ((Eu n).take j))
  (fun F _=>64-(vi (F 4)).toNat) rfl ⟨Zg.refl _ _,rfl,0,by omega,rfl,Z1.nil _ _ _⟩ ?_
 rintro F g ⟨hg,f0,j,hj,f4,ho⟩
 have SU:=hg.size
 by_cases ZC:j<8
 ·have ZL:((8*j:Nat):Int)<64:=by omega
  have e1:Xa .i64 (n:Int) ((8*j:Nat):Int)=((n/256 ^ j:Nat):Int):=by
   rw[Sg .i64 n (8*j) (by show 8*j≤64;omega),Nat.shiftRight_eq_div_pow,Nat.pow_mul]
  have e2:((n/256 ^ j:Nat):Int)%256=((n/256 ^ j%256:Nat):Int):=rfl
  have e3:¬((8*j:Nat):Int)<0:=by omega
  have e4:((8*j:Nat):Int)+8=((8*(j+1):Nat):Int):=by omega
  simp -implicitDefEqProofs only[go_sem,↓reduceIte,f0,f4,ZL,e1,e2,e3]
  have hX:n/256 ^ j%256<256:=Nat.mod_lt _ (by decide)
  refine Zw (E:=5) (B:=h.size) Yu Tryz.underlying34 Wm Vf Ve (ho.push _) (by simp;omega) (Bs.one hX 1) (by simp[Js];omega) ?_
  intro v' h' Rd XZ _
  simp -implicitDefEqProofs only[go_sem,↓reduceIte,f0,f4,e4]
  refine⟨⟨(hg.Yh SU _).trans XZ,f0,j+1,ZC,rfl,?_⟩,?_⟩
  ·rw[Yd _ j (by rw[Js];exact ZC)]
   have e:(Eu n)[j]'(by rw[Js];exact ZC)=n/256 ^ j%256:=by simp[Eu]
   rw[e];exact Rd
  ·simp only[vi,Zl,↓reduceIte,f4];omega
 ·have YF:¬((8*j:Nat):Int)<64:=by omega
  obtain rfl:j=8:=by omega
  rw[List.take_of_length_le (by rw[Js];exact Nat.le_refl _)]at ho
  simp -implicitDefEqProofs only[go_sem,↓reduceIte,f0,f4,YF]
  exact⟨ho,hg⟩
theorem SY {key Zr:List Nat} {k:Int} (hk:key.length=32) (hn:Zr.length=12) (h0:0≤k) (h1:k≤1073741824):Xy key k Zr=0:=by
 unfold Xy
 rw[if_neg (by omega),if_neg (by omega)]
theorem KY (key:List Nat) (k:Nat) (Zr:List Nat):(Xl key k Zr).length=64:=by simp[Xl,KR]
theorem Ew {known XU:List Nat} (hk:known.length≤256) (hs:XU.length≤2000):(Vn known XU).length≤2400:=by
 unfold Vn
 have h1:=Mv known
 have h2:=Mv XU
 simp only[List.length_append,Js];omega
theorem Ex {key data:List Nat} (hk:key.length=32) (hd:data.length≤4000):WK key data=0:=by
 unfold WK;rw[if_neg (by omega)]
set_option maxHeartbeats 1000000 in
theorem Np (T:World) (h:Hp) (v u kn sv:Value) (key Zr known XU:List Nat) (sk:Bs h v key) (sn:Bs h u Zr) (sw:Bs h kn known) (ss:Bs h sv XU) (hk:key.length=32) (hn:Zr.length=12) (hw:known.length≤256) (hs:XU.length≤2000) (ck:VF v) (cn:VF u) :
  Zc Tryz.prog T 69 #[v,u,kn,sv] h fun v' h'=>Z1 h.size 5 h' v' (Qo key Zr known XU)∧Zg h.size h h':=by
 obtain⟨pw,cw,rfl,_⟩:=sw.open
 obtain⟨ps,cs,rfl,_⟩:=ss.open
 refine Zc.Zi (args:=[_,_,_,_]) Tryz.func69 rfl rfl rfl rfl ?_
 simp -implicitDefEqProofs only[go_sem,↓reduceIte]
 refine (ko T _ _ _ key Zr 0 sk sn ck cn).use ?_
 rintro _ h1 ⟨⟨w1,rfl,o1⟩,b1⟩
 have e0:=SY (k:=0) hk hn (by decide) (by decide)
 rw[e0,if_pos rfl]at o1
 rw[e0]
 have o1:Z1 h.size 5 h1 w1 (Xl key 0 Zr):=o1
 have z1:=b1.size
 simp -implicitDefEqProofs only[go_sem,↓reduceIte]
 refine (IN T _ _ known (sw.Z9 b1) (by omega)).use ?_
 rintro v2 h2 ⟨o2,b2⟩
 have z2:=b2.size
 have B2:=b1.trans (b2.mono z1)
 simp -implicitDefEqProofs only[go_sem,↓reduceIte]
 refine (IN T _ _ XU (ss.Z9 B2) (by omega)).use ?_
 rintro v3 h3 ⟨o3,b3⟩
 have z3:=b3.size
 have B3:=B2.trans (b3.mono (by omega))
 have l1:=Mv known
 have l2:=Mv XU
 simp -implicitDefEqProofs only[go_sem,↓reduceIte]
 refine Zw (E:=5) (B:=h1.size) Yu Tryz.underlying34 Wm Vf Ve (o2.Z9 b3 (Nat.le_refl _)) (by omega) o3.bs (by omega) ?_
 intro v4 h4 o4 b4 _
 have z4:=b4.size
 simp -implicitDefEqProofs only[go_sem,↓reduceIte]
 refine (IP T _ known.length (by omega)).use ?_
 rintro v5 h5 ⟨o5,b5⟩
 have z5:=b5.size
 simp -implicitDefEqProofs only[go_sem,↓reduceIte]
 refine Zw (E:=5) (B:=h1.size) Yu Tryz.underlying34 Wm Vf Ve (o4.Z9 b5 (Nat.le_refl _)) (by omega) o5.bs (by simp only[List.length_append,Js];omega) ?_
 intro v6 h6 o6 b6 _
 have z6:=b6.size
 simp -implicitDefEqProofs only[go_sem,↓reduceIte]
 refine (IP T _ XU.length (by omega)).use ?_
 rintro v7 h7 ⟨o7,b7⟩
 have z7:=b7.size
 simp -implicitDefEqProofs only[go_sem,↓reduceIte]
 refine Zw (E:=5) (B:=h1.size) Yu Tryz.underlying34 Wm Vf Ve (o6.Z9 b7 (Nat.le_refl _)) (by omega) o7.bs (by simp only[List.length_append,Js];omega) ?_
 intro v8 h8 o8 b8 _
 have z8:=b8.size
 have o8:Z1 h1.size 5 h8 v8 (Vn known XU):=o8
 have B8:Zg h1.size h1 h8:=(((((b2.trans (b3.mono z2)).trans b4).trans (b5.mono (by omega))).trans b6).trans (b7.mono (by omega))).trans b8
 have o1':=o1.Z9 B8 (Nat.le_refl _)
 have hlb:=KY key 0 Zr
 obtain⟨pb,cb,rfl,Ho⟩:=o1'.open
 rw[hlb]at Ho o1' ⊢
 have s32:=Sp o1'.bs (m:=32) (by omega) cb
 have c32:(32:Int)≤cb:=by omega
 have l32:((Xl key 0 Zr).take 32).length=32:=by rw[List.length_take];omega
 have hd:=Ew hw hs
 simp -implicitDefEqProofs only[go_sem,↓reduceIte,c32]
 refine (Et T _ _ _ ((Xl key 0 Zr).take 32) (Vn known XU) s32 o8.bs (show 32≤cb by omega) o8.cap).use ?_
 rintro _ h9 ⟨⟨w9,rfl,o9⟩,b9⟩
 have e9:=Ex (data:=Vn known XU) l32 (by omega)
 rw[e9,if_pos rfl]at o9
 rw[e9]
 simp -implicitDefEqProofs only[go_sem,↓reduceIte]
 exact⟨o9.mono (by omega),(b1.trans (B8.mono z1)).trans (b9.mono (by omega))⟩
def XV (k n w m Xm:Nat):Int:=if k≠32∨n≠12∨256<w∨Xm<m then 1 else 0
theorem PA {k n w m Xm:Nat} (e:XV k n w m Xm=0):k=32∧n=12∧w≤256∧m≤Xm:=by
 unfold XV at e
 split at e
 ·cases e
 ·omega
theorem Nq {k n w m Xm:Nat} (e:¬XV k n w m Xm=0):XV k n w m Xm=1:=by
 unfold XV at e ⊢
 split
 ·rfl
 ·rename_i h;rw[if_neg h]at e;exact (e rfl).elim
theorem PB (T:World) (h:Hp) (p q r s:Option Addr) (k n w m c1 c2 c3 c4 Xm:Nat) :
  Zc Tryz.prog T 68 #[.slice p k c1,.slice q n c2,.slice r w c3,.slice s m c4,.int .i64 Xm] h fun v' h'=>v'=.int .i64 (XV k n w m Xm)∧h'=h:=by
 refine Zc.Zi (args:=[_,_,_,_,_]) Tryz.func68 rfl rfl rfl rfl ?_
 unfold XV
 by_cases q0:k=32
 ·
  by_cases q1:n=12
  ·
   by_cases q2:w≤256
   ·
    by_cases q3:m≤Xm
    ·
     have c0:(k:Int)=32∨¬(k:Int)=32:=by omega
     have c1:(n:Int)=12∨¬(n:Int)=12:=by omega
     have c2:256<(w:Int)∨¬256<(w:Int):=by omega
     have c3:(Xm:Int)<(m:Int)∨¬(Xm:Int)<(m:Int):=by omega
     rcases c0 with c0|c0<;>rcases c1 with c1|c1<;>rcases c2 with c2|c2<;>rcases c3 with c3|c3<;>first
      | (exfalso;omega)
      | (rw[if_neg (by omega)];simp -implicitDefEqProofs only[go_sem,↓reduceIte,c0,c1,c2,c3])
      | (rw[if_pos (by omega)];simp -implicitDefEqProofs only[go_sem,↓reduceIte,c0,c1,c2,c3])
    ·
     have c0:(k:Int)=32∨¬(k:Int)=32:=by omega
     have c1:(n:Int)=12∨¬(n:Int)=12:=by omega
     have c2:256<(w:Int)∨¬256<(w:Int):=by omega
     have c3:(Xm:Int)<(m:Int)∨¬(Xm:Int)<(m:Int):=by omega
     rcases c0 with c0|c0<;>rcases c1 with c1|c1<;>rcases c2 with c2|c2<;>rcases c3 with c3|c3<;>first
      | (exfalso;omega)
      | (rw[if_neg (by omega)];simp -implicitDefEqProofs only[go_sem,↓reduceIte,c0,c1,c2,c3])
      | (rw[if_pos (by omega)];simp -implicitDefEqProofs only[go_sem,↓reduceIte,c0,c1,c2,c3])
   ·
    have c0:(k:Int)=32∨¬(k:Int)=32:=by omega
    have c1:(n:Int)=12∨¬(n:Int)=12:=by omega
    have c2:256<(w:Int)∨¬256<(w:Int):=by omega
    have c3:(Xm:Int)<(m:Int)∨¬(Xm:Int)<(m:Int):=by omega
    rcases c0 with c0|c0<;>rcases c1 with c1|c1<;>rcases c2 with c2|c2<;>rcases c3 with c3|c3<;>first
     | (exfalso;omega)
     | (rw[if_neg (by omega)];simp -implicitDefEqProofs only[go_sem,↓reduceIte,c0,c1,c2,c3])
     | (rw[if_pos (by omega)];simp -implicitDefEqProofs only[go_sem,↓reduceIte,c0,c1,c2,c3])
  ·
   have c0:(k:Int)=32∨¬(k:Int)=32:=by omega
   have c1:(n:Int)=12∨¬(n:Int)=12:=by omega
   have c2:256<(w:Int)∨¬256<(w:Int):=by omega
   have c3:(Xm:Int)<(m:Int)∨¬(Xm:Int)<(m:Int):=by omega
   rcases c0 with c0|c0<;>rcases c1 with c1|c1<;>rcases c2 with c2|c2<;>rcases c3 with c3|c3<;>first
    | (exfalso;omega)
    | (rw[if_neg (by omega)];simp -implicitDefEqProofs only[go_sem,↓reduceIte,c0,c1,c2,c3])
    | (rw[if_pos (by omega)];simp -implicitDefEqProofs only[go_sem,↓reduceIte,c0,c1,c2,c3])
 ·
  have c0:(k:Int)=32∨¬(k:Int)=32:=by omega
  have c1:(n:Int)=12∨¬(n:Int)=12:=by omega
  have c2:256<(w:Int)∨¬256<(w:Int):=by omega
  have c3:(Xm:Int)<(m:Int)∨¬(Xm:Int)<(m:Int):=by omega
  rcases c0 with c0|c0<;>rcases c1 with c1|c1<;>rcases c2 with c2|c2<;>rcases c3 with c3|c3<;>first
   | (exfalso;omega)
   | (rw[if_neg (by omega)];simp -implicitDefEqProofs only[go_sem,↓reduceIte,c0,c1,c2,c3])
   | (rw[if_pos (by omega)];simp -implicitDefEqProofs only[go_sem,↓reduceIte,c0,c1,c2,c3])
def IQ (key Zr known plain:List Nat):List Nat:=Pm key 1 Zr plain++Qo key Zr known (Pm key 1 Zr plain)
def aF (B:Nat) (h':Hp) (v':Value) (key Zr known plain:List Nat):Prop:=∃w,v'=.tuple [w,.int .i64 (XV key.length Zr.length known.length plain.length 2000)].toArray∧Z1 B 5 h' w (if XV key.length Zr.length known.length plain.length 2000=0 then IQ key Zr known plain else [])
theorem Nr {key Zr:List Nat} {k:Int} {n:Nat} (hk:key.length=32) (hn:Zr.length=12) (h0:0≤k) (h1:k≤1073741824) (hm:n≤2000):WD key k Zr n=0:=by
 unfold WD
 rw[SY hk hn h0 h1,if_neg (by simp),if_neg (by omega)]
theorem Mw (key data:List Nat):(Br key data).length≤16:=by rw[Ej];exact Nat.le_refl _
theorem qL (T:World) (h:Hp) (v u kn sv:Value) (key Zr known plain:List Nat) (sk:Bs h v key) (sn:Bs h u Zr) (sw:Bs h kn known) (ss:Bs h sv plain) (ck:VF v) (cn:VF u) :
  Zc Tryz.prog T 65 #[v,u,kn,sv] h fun v' h'=>aF h.size h' v' key Zr known plain∧Zg h.size h h':=by
 obtain⟨p,c,rfl,_⟩:=sk.open
 obtain⟨q,d,rfl,_⟩:=sn.open
 obtain⟨pw,cw,rfl,_⟩:=sw.open
 obtain⟨ps,cs,rfl,_⟩:=ss.open
 refine Zc.Zi (args:=[_,_,_,_]) Tryz.func65 rfl rfl rfl rfl ?_
 unfold aF
 simp -implicitDefEqProofs only[go_sem,↓reduceIte]
 refine (PB T _ _ _ _ _ _ _ _ _ _ _ _ _ 2000).pure ?_
 by_cases e:XV key.length Zr.length known.length plain.length 2000=0
 ·obtain⟨hk,hn,hw,hs⟩:=PA e
  rw[e,if_pos rfl]
  simp -implicitDefEqProofs only[go_sem,↓reduceIte,e]
  refine (ky T _ _ _ _ key Zr plain 1 sk sn ss ck cn).use ?_
  rintro _ h1 ⟨⟨w1,rfl,o1⟩,b1⟩
  have e1:=Nr (k:=1) hk hn (by decide) (by decide) hs
  rw[e1,if_pos rfl]at o1
  rw[e1]
  have o1:Z1 h.size 5 h1 w1 (Pm key 1 Zr plain):=o1
  have z1:=b1.size
  have l1:=Wr key 1 Zr plain
  simp -implicitDefEqProofs only[go_sem,↓reduceIte]
  refine (Np T _ _ _ _ _ key Zr known (Pm key 1 Zr plain) (sk.Z9 b1) (sn.Z9 b1) (sw.Z9 b1) o1.bs hk hn hw (by omega) ck cn).use ?_
  rintro v2 h2 ⟨o2,b2⟩
  have l2:(Qo key Zr known (Pm key 1 Zr plain)).length≤16:=Mw _ _
  have z2:=b2.size
  simp -implicitDefEqProofs only[go_sem,↓reduceIte]
  refine Zw (E:=5) (B:=h.size) Yu Tryz.underlying34 Wm Vf Ve (o1.Z9 b2 (Nat.le_refl _)) (by omega) o2.bs (by omega) ?_
  intro v3 h3 o3 b3 _
  simp -implicitDefEqProofs only[go_sem,↓reduceIte]
  exact⟨⟨_,rfl,o3⟩,(b1.trans (b2.mono z1)).trans b3⟩
 ·have e1:=Nq e
  rw[if_neg e]
  simp -implicitDefEqProofs only[go_sem,↓reduceIte,e1]
  exact⟨_,rfl,Z1.nil _ _ _⟩
theorem IS (a:Option Addr) (c:Nat):C2 a 1 c 0=a:=by
 unfold C2
 split
 ·rfl
 ·cases a with
  | none=>rfl
  | some a=>simp[Addr.add]
def PC (key Zr known data:List Nat):Int:=if XV key.length Zr.length known.length data.length 2016≠0 then 1 else if data.length<16 then 13 else if Qo key Zr known (data.take (data.length-16))≠data.drop (data.length-16) then 6 else 0
def kT (key Zr data:List Nat):List Nat:=Pm key 1 Zr (data.take (data.length-16))
def aG (B:Nat) (h':Hp) (v':Value) (key Zr known data:List Nat):Prop:=∃w,v'=.tuple [w,.int .i64 (PC key Zr known data)].toArray∧Z1 B 5 h' w (if PC key Zr known data=0 then kT key Zr data else [])
theorem qM (T:World) (h:Hp) (v u kn sv:Value) (key Zr known data:List Nat) (sk:Bs h v key) (sn:Bs h u Zr) (sw:Bs h kn known) (ss:Bs h sv data) (ck:VF v) (cn:VF u) (cs:VF sv) :
  Zc Tryz.prog T 48 #[v,u,kn,sv] h fun v' h'=>aG h.size h' v' key Zr known data∧Zg h.size h h':=by
 obtain⟨p,c,rfl,_⟩:=sk.open
 obtain⟨q,d,rfl,_⟩:=sn.open
 obtain⟨pw,cw,rfl,_⟩:=sw.open
 obtain⟨ps,cd,rfl,_⟩:=ss.open
 have cs:data.length≤cd:=cs
 refine Zc.Zi (args:=[_,_,_,_]) Tryz.func48 rfl rfl rfl rfl ?_
 unfold aG
 simp -implicitDefEqProofs only[go_sem,↓reduceIte]
 refine (PB T _ _ _ _ _ _ _ _ _ _ _ _ _ 2016).pure ?_
 have kU:PC key Zr known data=if XV key.length Zr.length known.length data.length 2016≠0 then 1 else if data.length<16 then 13 else if Qo key Zr known (data.take (data.length-16))≠data.drop (data.length-16) then 6 else 0:=rfl
 by_cases e:XV key.length Zr.length known.length data.length 2016=0
 ·obtain⟨hk,hn,hw,hs⟩:=PA e
  rw[if_neg (by simp[e])]at kU
  by_cases xY:data.length<16
  ·rw[if_pos xY]at kU
   rw[kU]
   have n0:(data.length:Int)-16<0:=by omega
   simp -implicitDefEqProofs only[go_sem,↓reduceIte,e,n0]
   exact⟨_,rfl,Z1.nil _ _ _⟩
  ·rw[if_neg xY]at kU
   have n0:¬((data.length-16:Nat):Int)<0:=by omega
   have n1:(data.length:Int)-16=((data.length-16:Nat):Int):=by omega
   have sfr:=Sp ss (m:=data.length-16) (by omega) cd
   have sbk:=Sk ss rfl (k:=data.length-16) (by omega) cs (cd-(data.length-16))
   have lfr:(data.take (data.length-16)).length=data.length-16:=by rw[List.length_take];omega
   have Zdc:((data.length-16:Nat):Int)≤cd:=by omega
   have Zk4:((data.length-16:Nat):Int)≤data.length:=by omega
   simp -implicitDefEqProofs only[go_sem,↓reduceIte,e,n1,n0]
   refine VS.w (h.size) [] (.q 0 (.q 1 (.q 2 (.q 3 (.q 4 (.q 5 (.q 7 (.q 8 (.q 9 (.s 6 (.s 10 (.q 11 .nil)))))))))))) mixed (by kernel_rfl) ?_
   simp -implicitDefEqProofs only[go_sem,↓reduceIte,Zdc,Zk4,Int.toNat_natCast,QF,IS]
   refine (Np T _ _ _ _ _ key Zr known (data.take (data.length-16)) sk sn sw sfr hk hn hw (by omega) ck cn).use ?_
   rintro v1 h1 ⟨o1,b1⟩
   have l1:(Qo key Zr known (data.take (data.length-16))).length≤16:=Mw _ _
   simp -implicitDefEqProofs only[go_sem,↓reduceIte,b1]
   refine (HW T _ _ _ _ _ o1.bs (sbk.Z9 b1) (by omega)).pure ?_
   obtain⟨S,hS⟩:=ZA (Qo key Zr known (data.take (data.length-16)))
   rw[←hS]at kU ⊢
   by_cases ht:S=data.drop (data.length-16)
   ·rw[if_neg (by simp[ht])]at kU
    rw[kU,if_pos rfl]
    have ht':decide (S=data.drop (data.length-16))=true:=decide_eq_true ht
    simp -implicitDefEqProofs only[go_sem,↓reduceIte,b1,ht',Zdc,QF,IS]
    refine (ky T _ _ _ _ key Zr (data.take (data.length-16)) 1 (sk.Z9 b1) (sn.Z9 b1) (sfr.Z9 b1) ck cn).use ?_
    rintro _ h2 ⟨⟨w2,rfl,o2⟩,b2⟩
    have e2:=Nr (k:=1) hk hn (by decide) (by decide) (show (data.take (data.length-16)).length≤2000 by omega)
    rw[e2,if_pos rfl]at o2
    rw[e2]
    have o2:Z1 h1.size 5 h2 w2 (kT key Zr data):=o2
    simp -implicitDefEqProofs only[go_sem,↓reduceIte]
    exact⟨⟨_,rfl,o2.mono b1.size⟩,b1.trans (b2.mono b1.size)⟩
   ·rw[if_pos ht]at kU
    rw[kU]
    have ht':decide (S=data.drop (data.length-16))=false:=decide_eq_false ht
    simp -implicitDefEqProofs only[go_sem,↓reduceIte,b1,ht']
    exact⟨_,rfl,Z1.nil _ _ _⟩
 ·have e1:=Nq e
  rw[if_pos e]at kU
  rw[kU]
  simp -implicitDefEqProofs only[go_sem,↓reduceIte,e1]
  exact⟨_,rfl,Z1.nil _ _ _⟩
def YN (n:Nat):List Nat:=[n/16777216%256,n/65536%256,n/256%256,n%256]
theorem BF (n:Nat):∀x∈YN n,x<256:=by
 intro x hx
 simp only[YN,List.mem_cons,List.not_mem_nil,or_false]at hx
 omega
theorem LF (n k:Nat) (hk:k≤64):Xa .i64 (n:Int) (k:Int)=((n/2 ^ k:Nat):Int):=by
 rw[Sg .i64 n k hk,Nat.shiftRight_eq_div_pow]
theorem Ey (T:World) (h:Hp) (n:Nat) (hn:n≤1073741824) :
  Zc Tryz.prog T 64 #[.int .i64 n] h fun v' h'=>Z1 h.size 5 h' v' (YN n)∧Zg h.size h h':=by
 refine Zc.Zi (args:=[_]) Tryz.func64 rfl rfl rfl rfl ?_
 have e1:Xa .i64 (n:Int) 24%256=((n/16777216%256:Nat):Int):=by rw[show (24:Int)=((24:Nat):Int) from rfl,LF n 24 (by omega)];omega
 have e2:Xa .i64 (n:Int) 16%256=((n/65536%256:Nat):Int):=by rw[show (16:Int)=((16:Nat):Int) from rfl,LF n 16 (by omega)];omega
 have e3:Xa .i64 (n:Int) 8%256=((n/256%256:Nat):Int):=by rw[show (8:Int)=((8:Nat):Int) from rfl,LF n 8 (by omega)];omega
 have e4:(n:Int)%256=((n%256:Nat):Int):=by omega
 simp -implicitDefEqProofs only[go_sem,↓reduceIte,e1,e2,e3,e4]
 exact Z1.made (l:=YN n) (BF n) (Nat.le_refl _)
def XW (l:List Nat):List Nat:=List.replicate 8 0++l
theorem ya:(XM 12 [Value.int .u8 0])=(List.replicate 12 0).map bv:=rfl
theorem PD (T:World) (h:Hp) (v:Value) (l:List Nat) (s:Bs h v l) (hl:l.length≤1000) :
  Zc Tryz.prog T 49 #[v] h fun v' h'=>Z1 h.size 5 h' v' (XW l)∧Zg h.size h h':=by
 refine Zc.Zi (args:=[_]) Tryz.func49 rfl rfl rfl rfl ?_
 simp -implicitDefEqProofs only[go_sem,↓reduceIte,ya]
 have o1:Z1 h.size 5 (h.push (.cells ((List.replicate 12 0).map bv).toArray 5)) (.slice (some ⟨h.size,0,none⟩) 8 12) (List.replicate 8 0):=by
  refine⟨.inr ⟨h.size,12,(List.replicate 4 0).map bv,Nat.le_refl _,rfl,?_,by simp,by simp,by simp⟩,fun x hx=>by rw[List.eq_of_mem_replicate hx];decide⟩
  rw[Zb,←List.map_append];rfl
 refine Zw (E:=5) (B:=h.size) Yu Tryz.underlying34 Wm Vf Ve o1 (by simp) (s.Z9 (Zg.push (Nat.le_refl _) _)) (by simp;omega) ?_
 intro v' h' Rd XZ _
 simp -implicitDefEqProofs only[go_sem,↓reduceIte]
 exact⟨Rd,(Zg.push (Nat.le_refl _) _).trans XZ⟩
def Wu (n:Nat) (ZI top:Int) (s:List Bool) (m:Nat):Int:=if Xd n ZI top s≠0 then 5 else if 2000<m then 1 else if ZI=1073741824 then 8 else 0
def Jt:List Bool:=[false,false,false,false,false,false,false,false]
def BG (kl:List Nat) (n:Nat) (plain:List Nat):List Nat:=YN n++IQ kl (XW (YN n)) (YN n) plain
def aH (B:Nat) (h':Hp) (cw:Value) (e:Int) (kl:List Nat) (ZI top:Int) (s:List Bool):Prop:=H4 B h' cw (if e=0 then kl else []) (if e=0 then ZI else 0) (if e=0 then top else 0) (if e=0 then s else Jt)
def Gn (B:Nat) (h':Hp) (v':Value) (kl:List Nat) (ZI top:Int) (s:List Bool) (plain:List Nat):Prop:=∃cw w,v'=.tuple [cw,w,.int .i64 (Wu kl.length ZI top s plain.length)].toArray ∧
 aH B h' cw (Wu kl.length ZI top s plain.length) kl (ZI+1) top s∧Z1 B 5 h' w (if Wu kl.length ZI top s plain.length=0 then BG kl ZI.toNat plain else [])
theorem PG (n:Nat) (ZI top:Int) (s:List Bool):Xd n ZI top s=0∨Xd n ZI top s=5:=by
 unfold Xd
 repeat' split
 all_goals simp
theorem PH {n:Nat} {ZI top:Int} {s:List Bool} (e:Xd n ZI top s=0):n=32∧0≤ZI∧ZI≤1073741824∧0≤top∧top≤1073741824:=by
 unfold Xd at e
 split at e
 ·cases e
 ·omega
theorem wrZ {G:Hp} {b:Nat} (hx:G[b]? = some (.cells QZ.toArray 84)) {w:List Value} (h11:w.length=11) (h1:w.all Z8=true):wr G ⟨b,0,none⟩ w=some (G.setIfInBounds b (.cells w.toArray 84)):=by
 rw[ZR hx 0 w,ZO (by rw[h11];rfl),if_pos ⟨by rw[h11];exact Nat.le_refl _,h1⟩]
set_option maxHeartbeats 1000000 in
theorem Ez (T:World) (h:Hp) (k u:Value) (kl plain:List Nat) (ZI top:Int) (s:List Bool) (hs:s.length=8) (sk:Bs h k kl) (sp:Bs h u plain) (ck:VF k) :
  Zc Tryz.prog T 43 #[.agg (ZP k ZI top s).toArray,u] h fun v' h'=>Gn h.size h' v' kl ZI top s plain∧Zg h.size h h':=by
 obtain⟨p,c,rfl,_⟩:=sk.open
 obtain⟨q,d,rfl,_⟩:=sp.open
 have U8:=Ya (.slice p kl.length c) ZI top s hs
 have tk:=Xg U8
 refine Zc.XI (args:=[_,_]) Tryz.func43 rfl rfl rfl rfl ?_
 simp -implicitDefEqProofs only[go_sem,↓reduceIte,U8,tk]
 have Vk:Zg h.size h ((h.push (.cells (ZP (.slice p kl.length c) ZI top s).toArray 84)).push (.cells QZ.toArray 84)):=by (repeat' (first|exact Zg.refl _ _|assumption|refine Zg.add ?_ _|refine Zg.Zm ?_ (by first|omega|(simp;omega)) _|refine Zg.trans (by assumption) ?_))
 refine (Pe T _ p kl.length c ZI top s hs).use ?_
 rintro _ g1 ⟨rfl,b1⟩
 have x0:g1[h.size]? = some (.cells (ZP (.slice p kl.length c) ZI top s).toArray 84):=b1.get (by simp only[Array.size_push];omega) (by simp only[Array.getElem?_push,Array.size_push,IntWalk.iteOmega,↓reduceIte])
 have x1:g1[h.size+1]? = some (.cells QZ.toArray 84):=b1.get (by simp only[Array.size_push];omega) (by simp only[Array.getElem?_push,Array.size_push,IntWalk.iteOmega,↓reduceIte];rfl)
 have QQ:Zg h.size h g1:=Vk.trans (b1.mono (by simp;omega))
 have z1:=Za x1
 clear b1 Vk
 have Tc:Wu kl.length ZI top s plain.length=if Xd kl.length ZI top s≠0 then 5 else if 2000<plain.length then 1 else if ZI=1073741824 then 8 else 0:=rfl
 unfold Gn aH
 obtain⟨E,hE⟩:=ZA (Wu kl.length ZI top s plain.length)
 rw[←hE]at Tc ⊢
 have wz:=wrZ x1 (w:=[.slice none 0 0,.int .i64 0,.int .i64 0,.bool false,.bool false,.bool false,.bool false,.bool false,.bool false,.bool false,.bool false]) rfl rfl
 have nZ:Zg h.size h (g1.setIfInBounds (h.size+1) (.cells #[.slice none 0 0,.int .i64 0,.int .i64 0,.bool false,.bool false,.bool false,.bool false,.bool false,.bool false,.bool false,.bool false] 84)):=QQ.Zm (by omega) _
 by_cases e0:Xd kl.length ZI top s=0
 ·obtain⟨hk,s0,s1,t0,t1⟩:=PH e0
  rw[if_neg (by simp[e0])]at Tc
  by_cases hm:2000<plain.length
  ·rw[if_pos hm]at Tc
   have Mi:2000<(plain.length:Int):=by omega
   simp -implicitDefEqProofs only[go_sem,↓reduceIte,e0,Mi,wz,z1]
   exact⟨⟨_,_,by rw[Tc];rfl,⟨_,rfl,Z1.nil _ _ _⟩,Z1.nil _ _ _⟩,nZ⟩
  ·rw[if_neg hm]at Tc
   have Mi:¬2000<(plain.length:Int):=by omega
   have y1:V.hc g1 ⟨h.size,1,none⟩=some (.int .i64 ZI):=by rw[Zh x0];rfl
   have y0:V.hc g1 ⟨h.size,0,none⟩=some (.slice p kl.length c):=by rw[Zh x0];rfl
   by_cases hf:ZI=1073741824
   ·rw[if_pos hf]at Tc
    have vQ:(ZI=1073741824)=True:=eq_true hf
    simp -implicitDefEqProofs only[go_sem,↓reduceIte,e0,Mi,y1,vQ,wz,z1]
    exact⟨⟨_,_,by rw[Tc];rfl,⟨_,rfl,Z1.nil _ _ _⟩,Z1.nil _ _ _⟩,nZ⟩
   ·rw[if_neg hf]at Tc
    rw[Tc]
    obtain⟨n,rfl⟩:∃n:Nat,ZI=n:=⟨ZI.toNat,by omega⟩
    rw[Int.toNat_natCast]
    simp -implicitDefEqProofs only[go_sem,↓reduceIte,e0,Mi,y1,hf]
    refine (Ey T _ n (by omega)).use ?_
    rintro vh g2 ⟨oh,b2⟩
    have z2:=b2.size
    have xC:=b2.get (by omega) x0
    have uD:=b2.get (by omega) x1
    have y0':V.hc g2 ⟨h.size,0,none⟩=some (.slice p kl.length c):=by rw[Zh xC];rfl
    have To:=QQ.trans (b2.mono QQ.size)
    have Oo:h.size<g2.size:=by omega
    simp -implicitDefEqProofs only[go_sem,↓reduceIte]
    refine VS.w (g2.size) [] (.q 0 (.q 1 (.q 2 (.q 4 (.q 5 (.s 3 (.s 6 (.q 7 (.q 8 (.q 9 (.q 10 (.q 11 .nil)))))))))))) mixed (by kernel_rfl) ?_
    simp -implicitDefEqProofs only[go_sem,↓reduceIte,y0',Oo]
    refine (PD T _ _ _ oh.bs (by simp[YN])).use ?_
    rintro vn g3 ⟨on,b3⟩
    have z3:=b3.size
    have b3T:Zg g2.size g2 g3=True:=eq_true b3
    simp -implicitDefEqProofs only[go_sem,↓reduceIte,b3T]
    refine (qL T _ _ _ _ _ kl (XW (YN n)) (YN n) plain ((sk.Z9 To).Z9 b3) on.bs (oh.bs.Z9 b3) ((sp.Z9 To).Z9 b3) ck on.cap).use ?_
    rintro _ g4 ⟨⟨w4,rfl,o4⟩,b4⟩
    have z4:=b4.size
    have eS:XV kl.length (XW (YN n)).length (YN n).length plain.length 2000=0:=by
     unfold XV XW YN;rw[if_neg];simp;omega
    rw[eS,if_pos rfl]at o4
    rw[eS]
    have DL:Zg g2.size g2 g4:=b3.trans (b4.mono z3)
    have kV:Zg g2.size g2 g4=True:=eq_true DL
    have Zk6:=DL.get (by omega) xC
    have Zk7:=DL.get (by omega) uD
    have az:=To.trans (DL.mono To.size)
    have rC:rd g4 ⟨h.size,0,none⟩ 11=some (ZP (.slice p kl.length c) n top s):=Zq Zk6 U8
    simp -implicitDefEqProofs only[go_sem,↓reduceIte,kV,rC]
    refine (j0 T _ _ kl n top s hs (sk.Z9 az) (by omega)).use ?_
    rintro _ g5 ⟨⟨w5,rfl,o5⟩,b5⟩
    have z5:=b5.size
    obtain⟨pw,cw,rfl,_⟩:=o5.open
    have Zde:=b5.get (by omega) Zk7
    have N0:=Ya (.slice pw kl.length cw) n top s hs
    have uG:=Xg N0
    have oD:=J6 (p:=pw) (n:=kl.length) (c:=cw) n top s
    have lpD:∀v,Yn [v,.int .i64 0,.int .i64 0,.bool false,.bool false,.bool false,.bool false,.bool false,.bool false,.bool false,.bool false] 0 (ZP (.slice pw kl.length cw) n top s)=ZP (.slice pw kl.length cw) n top s:=fun v=>ZO N0
    have nD:nth (ZP (.slice pw kl.length cw) n top s) 1=some (.int .i64 n):=rfl
    have e1:(n:Int)+1=((n+1:Nat):Int):=rfl
    have sD:(ZP (.slice pw kl.length cw) n top s).set 1 (.int .i64 ((n+1:Nat):Int))=ZP (.slice pw kl.length cw) ((n+1:Nat):Int) top s:=rfl
    have IT:=Ya (.slice pw kl.length cw) ((n+1:Nat):Int) top s hs
    have Zdf:=Xg IT
    have oD':=J6 (p:=pw) (n:=kl.length) (c:=cw) ((n+1:Nat):Int) top s
    simp -implicitDefEqProofs only[go_sem,↓reduceIte,N0,uG,oD,lpD,nD,e1,sD]
    have rJ:rd (g5.push (.cells (ZP (.slice pw kl.length cw) ((n+1:Nat):Int) top s).toArray 84)) ⟨g5.size,0,none⟩ 11=some (ZP (.slice pw kl.length cw) ((n+1:Nat):Int) top s):=Zq Zb IT
    have xJ:(g5.push (.cells (ZP (.slice pw kl.length cw) ((n+1:Nat):Int) top s).toArray 84))[g5.size]? = some (.cells (ZP (.slice pw kl.length cw) ((n+1:Nat):Int) top s).toArray 84):=Zb
    have xZ:(g5.push (.cells (ZP (.slice pw kl.length cw) ((n+1:Nat):Int) top s).toArray 84))[h.size+1]? = some (.cells QZ.toArray 84):=by rw[Zs (by omega)];exact Zde
    have hB5:=az.trans (b5.mono az.size)
    have hBJ:Zg h.size h (g5.push (.cells (ZP (.slice pw kl.length cw) ((n+1:Nat):Int) top s).toArray 84)):=hB5.Yh hB5.size _
    have ohJ:=(oh.Z9 (DL.trans (b5.mono (by omega))) (Nat.le_refl _)).push (.cells (ZP (.slice pw kl.length cw) ((n+1:Nat):Int) top s).toArray 84)
    have owJ:=o5.push (.cells (ZP (.slice pw kl.length cw) ((n+1:Nat):Int) top s).toArray 84)
    have o4J:=(o4.Z9 b5 (Nat.le_refl _)).push (.cells (ZP (.slice pw kl.length cw) ((n+1:Nat):Int) top s).toArray 84)
    have zJ:(g5.push (.cells (ZP (.slice pw kl.length cw) ((n+1:Nat):Int) top s).toArray 84)).size=g5.size+1:=by simp
    have ZC:=oh.own.lt
    have jI:=oh.own.ZE
    have Zdg:=o5.own.ZE
    have Zv1:=o5.own.lt
    have lS:(IQ kl (XW (YN n)) (YN n) plain).length≤2016:=by
     have l1:=Wr kl 1 (XW (YN n)) plain
     have l2:(Qo kl (XW (YN n)) (YN n) (Pm kl 1 (XW (YN n)) plain)).length≤16:=Mw _ _
     unfold IQ;rw[List.length_append];omega
    have lh:(YN n).length=4:=rfl
    obtain⟨J,hJ⟩:=ZA (g5.push (.cells (ZP (.slice pw kl.length cw) ((n+1:Nat):Int) top s).toArray 84))
    rw[←hJ]at rJ xJ xZ hBJ ohJ owJ o4J zJ ⊢
    clear hJ
    have key:∀v' h',Z1 g1.size 5 h' v' (YN n++IQ kl (XW (YN n)) (YN n) plain)→Zg g1.size J h'→VB (ZN vh) J h' →
      rd h' ⟨g5.size,0,none⟩ 11=some (ZP (.slice pw kl.length cw) ((n+1:Nat):Int) top s)∧wr h' ⟨h.size+1,0,none⟩ (ZP (.slice pw kl.length cw) ((n+1:Nat):Int) top s)=some (h'.setIfInBounds (h.size+1) (.cells (ZP (.slice pw kl.length cw) ((n+1:Nat):Int) top s).toArray 84)) ∧
      (Zg (h.size+1) J h'=True)∧(Zg (h.size+1) J (h'.setIfInBounds (h.size+1) (.cells (ZP (.slice pw kl.length cw) ((n+1:Nat):Int) top s).toArray 84))=True)∧h.size+1<h'.size ∧
      Z1 h.size 5 (h'.setIfInBounds (h.size+1) (.cells (ZP (.slice pw kl.length cw) ((n+1:Nat):Int) top s).toArray 84)) (.slice pw kl.length cw) kl ∧
      Z1 h.size 5 (h'.setIfInBounds (h.size+1) (.cells (ZP (.slice pw kl.length cw) ((n+1:Nat):Int) top s).toArray 84)) v' (BG kl n plain) ∧
      Zg h.size h (h'.setIfInBounds (h.size+1) (.cells (ZP (.slice pw kl.length cw) ((n+1:Nat):Int) top s).toArray 84)):=by
     intro v' h' Rd XZ Re
     have xZ':=XZ.get (k:=h.size+1) (by omega) xZ
     have xJ':h'[g5.size]? = some (.cells (ZP (.slice pw kl.length cw) ((n+1:Nat):Int) top s).toArray 84):=by
      rw[Re.block g5.size (by omega) (fun e=>by have:=ZC _ e;omega)];exact xJ
     have ow':=owJ.MV Re (fun b hb e=>by have:=Zdg b hb;have:=ZC _ e;omega)
     have HG:Zg (h.size+1) J h':=XZ.mono (by omega)
     exact⟨Zq xJ' IT,wrZ xZ' IT oD',eq_true HG,eq_true (HG.Zm (Nat.le_refl _) _),Za xZ',(ow'.ZT (by omega) _).mono (by omega),(Rd.ZT (by omega) _).mono (by omega),(hBJ.trans (XZ.mono (by omega))).Zm (by omega) _⟩
    refine VS.w (h.size+1) [] (.q 1 (.q 2 (.or 0 (.s 3 (.s 4 (.q 5 (.q 6 .nil)))) (.s 3 (.s 0 (.s 4 (.q 5 (.q 6 .nil)))))))) mixed (by kernel_rfl) ?_
    simp -implicitDefEqProofs only[go_sem,↓reduceIte,rJ]
    refine⟨?_,?_⟩
    ·refine Zw (E:=5) (B:=g1.size) Yu Tryz.underlying34 Wm Vf Ve ohJ (by omega) o4J.bs (by omega) ?_
     intro v' h' Rd XZ Re
     obtain⟨k1,k2,k3,k4,k5,k6,k7,k8⟩:=key v' h' Rd XZ Re
     simp -implicitDefEqProofs only[go_sem,↓reduceIte,k1,k2,k3,k4,k5,IT,Zdf]
     exact⟨⟨_,_,rfl,⟨_,rfl,k6⟩,k7⟩,k8⟩
    ·refine Zw (E:=5) (B:=g1.size) Yu Tryz.underlying34 Wm Vf Ve ohJ (by omega) o4J.bs (by omega) ?_
     intro v' h' Rd XZ Re
     obtain⟨k1,k2,k3,k4,k5,k6,k7,k8⟩:=key v' h' Rd XZ Re
     simp -implicitDefEqProofs only[go_sem,↓reduceIte,k1,k2,k3,k4,k5,IT,Zdf]
     exact⟨⟨_,_,rfl,⟨_,rfl,k6⟩,k7⟩,k8⟩
 ·rw[if_pos e0]at Tc
  have e5:=(PG kl.length ZI top s).resolve_left e0
  simp -implicitDefEqProofs only[go_sem,↓reduceIte,e5,wz,z1]
  exact⟨⟨_,_,by rw[Tc];rfl,⟨_,rfl,Z1.nil _ _ _⟩,Z1.nil _ _ _⟩,nZ⟩
def EA (top:Int) (s:List Bool) (n:Nat):Bool:=decide ((n:Int)<top-8)||(decide ((n:Int)<top)&&s.getD ((n:Int)-(top-8)).toNat false)
theorem yc (T:World) (h:Hp) (k:Value) (ZI top:Int) (s:List Bool) (n:Nat) (hs:s.length=8) (t0:0≤top) (t1:top≤1073741824) (hn:n<1073741824) :
  Zc Tryz.prog T 47 #[.agg (ZP k ZI top s).toArray,.int .i64 n] h fun v' h'=>v'=.bool (EA top s n)∧Zg h.size h h':=by
 have U8:=Ya k ZI top s hs
 have tk:=Xg U8
 have n2:nth (ZP k ZI top s) 2=some (.int .i64 top):=rfl
 refine Zc.Zi (args:=[_,_]) Tryz.func47 rfl rfl rfl rfl ?_
 unfold EA
 by_cases q1:(n:Int)<top-8
 ·have d1:decide ((n:Int)<top-8)=true:=decide_eq_true q1
  simp -implicitDefEqProofs only[go_sem,↓reduceIte,U8,tk,n2,q1,d1,Bool.true_or]
 ·have d1:decide ((n:Int)<top-8)=false:=decide_eq_false q1
  by_cases q2:(n:Int)<top
  ·have d2:decide ((n:Int)<top)=true:=decide_eq_true q2
   obtain⟨i,hi⟩:∃i:Nat,(n:Int)-(top-8)=i:=⟨((n:Int)-(top-8)).toNat,by omega⟩
   have hi8:i<8:=by omega
   have Zlb:(i:Int)<8:=by omega
   have n3:nth (ZP k ZI top s) (3+i)=some (.bool (s.getD i false)):=by
    have:=Si s i (by omega)
    rw[Yk]at this ⊢
    rw[←this]
    show (k :: .int .i64 ZI :: .int .i64 top :: s.map Value.bool)[3+i]? = _
    rw[Nat.add_comm];rfl
   simp -implicitDefEqProofs only[go_sem,↓reduceIte,U8,tk,n2,q1,q2,d1,d2,hi,Zlb,Int.toNat_natCast,n3,Bool.false_or]
  ·have d2:decide ((n:Int)<top)=false:=decide_eq_false q2
   simp -implicitDefEqProofs only[go_sem,↓reduceIte,U8,tk,n2,q1,q2,d1,d2,Bool.false_or]
theorem BH (k:Value) (ZI top:Int) (s t:List Bool) (hs:s.length=8) (ht:t.length=8):Yn (ZP k ZI top s) 3 (t.map Value.bool)=ZP k ZI top t:=by
 have:=UH [k,.int .i64 ZI,.int .i64 top] (s.map Value.bool) (t.map Value.bool)
 rw[ZO (by simp[hs,ht])]at this
 exact this
set_option maxHeartbeats 1000000 in
theorem qN (T:World) (h:Hp) (k:Value) (kl:List Nat) (ZI top:Int) (s:List Bool) (n:Nat) (hs:s.length=8) (sk:Bs h k kl) (hk:kl.length≤140737488355328) (t0:0≤top) (t1:top≤1073741824) (hn:n<1073741824) (hm:¬(n:Int)<top-8) :
  Zc Tryz.prog T 50 #[.agg (ZP k ZI top s).toArray,.int .i64 n] h fun v' h'=>H4 h.size h' v' kl ZI (max top (n+1)) (Xs (VJ top s 8++[(n:Int)]) (max top (n+1)))∧Zg h.size h h':=by
 obtain⟨p,c,rfl,_⟩:=sk.open
 have U8:=Ya (.slice p kl.length c) ZI top s hs
 have tk:=Xg U8
 refine Zc.XI (args:=[_,_]) Tryz.func50 rfl rfl rfl rfl ?_
 simp -implicitDefEqProofs only[go_sem,↓reduceIte,U8,tk]
 have Vk:Zg h.size h ((h.push (.cells (ZP (.slice p kl.length c) ZI top s).toArray 84)).push (.cells QZ.toArray 84)):=by (repeat' (first|exact Zg.refl _ _|assumption|refine Zg.add ?_ _|refine Zg.Zm ?_ (by first|omega|(simp;omega)) _|refine Zg.trans (by assumption) ?_))
 refine (j0 T _ _ kl ZI top s hs (sk.Z9 Vk) hk).use ?_
 rintro _ g1 ⟨⟨w,rfl,o1⟩,b1⟩
 have x0:g1[h.size]? = some (.cells (ZP (.slice p kl.length c) ZI top s).toArray 84):=b1.get (by simp only[Array.size_push];omega) (by simp only[Array.getElem?_push,Array.size_push,IntWalk.iteOmega,↓reduceIte])
 have x1:g1[h.size+1]? = some (.cells QZ.toArray 84):=b1.get (by simp only[Array.size_push];omega) (by simp only[Array.getElem?_push,Array.size_push,IntWalk.iteOmega,↓reduceIte]<;>rfl)
 have QQ:Zg h.size h g1:=Vk.trans (b1.mono (by simp;omega))
 have z1:=Za x1
 simp only[Array.size_push]at o1
 obtain⟨pw,cw,rfl,_⟩:=o1.open
 clear b1 Vk
 have y2:V.hc g1 ⟨h.size,2,none⟩=some (.int .i64 top):=by rw[Zh x0];rfl
 have N0:=Ya (.slice pw kl.length cw) ZI top s hs
 have uG:=Xg N0
 have oD:=J6 (p:=pw) (n:=kl.length) (c:=cw) ZI top s
 have lpD:∀v,Yn [v,.int .i64 0,.int .i64 0,.bool false,.bool false,.bool false,.bool false,.bool false,.bool false,.bool false,.bool false] 0 (ZP (.slice pw kl.length cw) ZI top s)=ZP (.slice pw kl.length cw) ZI top s:=fun v=>ZO N0
 have e1:(n:Int)+1=((n+1:Nat):Int):=rfl
 obtain⟨TP,hTP⟩:∃TP:Int,TP=max top (n+1):=⟨_,rfl⟩
 have jL:(if ((n+1:Nat):Int)>top then ((n+1:Nat):Int) else top)=TP:=by rw[hTP];split<;>omega
 have sD:(ZP (.slice pw kl.length cw) ZI top s).set 2 (.int .i64 TP)=ZP (.slice pw kl.length cw) ZI TP s:=rfl
 have Zlc:=Ya (.slice pw kl.length cw) ZI TP s hs
 have lE:Yn (ZP (.slice pw kl.length cw) ZI TP s) 3 [.bool false,.bool false,.bool false,.bool false,.bool false,.bool false,.bool false,.bool false]=ZP (.slice pw kl.length cw) ZI TP (Xs (VJ top s 0) TP):=BH (.slice pw kl.length cw) ZI TP s Jt hs rfl
 have y0r:rd g1 ⟨h.size,3,none⟩ 8=some (s.map Value.bool):=by
  have OQ:(s.map Value.bool).length=8:=by rw[List.length_map,hs]
  have:=Z5 x0 (o:=3) (n:=8) (by rw[U8];omega)
  rw[this]
  have e:(ZP (.slice p kl.length c) ZI top s).drop 3=s.map Value.bool:=rfl
  rw[e,Xg OQ]
 rw[←hTP]
 simp -implicitDefEqProofs only[go_sem,↓reduceIte,N0,uG,oD,lpD,y2,e1,jL,sD,Zlc,lE,y0r]
 obtain⟨bo,hbo⟩:∃b,b=g1.size:=⟨_,rfl⟩
 obtain⟨J,hJ⟩:=ZA (g1.push (.cells (ZP (.slice pw kl.length cw) ZI TP (Xs (VJ top s 0) TP)).toArray 84))
 have J5:J[bo]? = some (.cells (ZP (.slice pw kl.length cw) ZI TP (Xs (VJ top s 0) TP)).toArray 84):=by rw[hJ,hbo];exact Zb
 have J0:J[h.size]? = some (.cells (ZP (.slice p kl.length c) ZI top s).toArray 84):=by rw[hJ,Zs (by omega)];exact x0
 have J1:J[h.size+1]? = some (.cells QZ.toArray 84):=by rw[hJ,Zs (by omega)];exact x1
 have JB:Zg h.size h J:=by rw[hJ];exact QQ.Yh QQ.size _
 have Jo:Z1 (h.size+1+1) 5 J (.slice pw kl.length cw) kl:=by rw[hJ];exact o1.push _
 have Jlt:∀b,ZN (.slice pw kl.length cw)=some b→b<bo:=fun b hb=>by have:=o1.own.lt b hb;omega
 have Jsz:J.size=bo+1:=by rw[hJ,Array.size_push,hbo]
 rw[←hJ,←hbo]
 clear hJ
 refine VS.ZW (fun F g=>F 1=.int .i64 n∧F 2=.pointer (some ⟨h.size,0,none⟩)∧F 4=.pointer (some ⟨h.size+1,0,none⟩)∧F 5=.pointer (some ⟨bo,0,none⟩)∧F 20=.agg (s.map Value.bool).toArray∧∃i:Nat,i≤8∧F 21=.int .i64 i∧g=J.setIfInBounds bo (.cells (ZP (.slice pw kl.length cw) ZI TP (Xs (VJ top s i) TP)).toArray 84))
  (fun F _=>8-(vi (F 21)).toNat) rfl ⟨rfl,rfl,rfl,rfl,rfl,0,by omega,rfl,(Q0 J5).symm⟩ ?_
 rintro F g ⟨f1,f2,f4,f5,f20,i,hi,f21,rfl⟩
 have hx:=ZQ (o:=.cells (ZP (.slice pw kl.length cw) ZI TP (Xs (VJ top s i) TP)).toArray 84) J5
 have TJ:(J.setIfInBounds bo (.cells (ZP (.slice pw kl.length cw) ZI TP (Xs (VJ top s i) TP)).toArray 84))[h.size]? = some (.cells (ZP (.slice p kl.length c) ZI top s).toArray 84):=by rw[Array.getElem?_setIfInBounds,if_neg (by omega)];exact J0
 have sl8:=Wz (VJ top s i) TP
 have YH:=dn top s i
 obtain⟨SS,ye⟩:=ZA (Xs (VJ top s i) TP)
 by_cases ZC:i<8
 ·have ZL:(i:Int)<8:=by omega
  rw[←ye]at hx TJ sl8 ⊢
  obtain⟨G,hG⟩:=ZA (J.setIfInBounds bo (.cells (ZP (.slice pw kl.length cw) ZI TP SS).toArray 84))
  rw[←hG]at hx TJ ⊢
  have n1:=Si s i (by omega)
  have y2:V.hc G ⟨h.size,2,none⟩=some (.int .i64 top):=by rw[Zh TJ];rfl
  have y5:V.hc G ⟨bo,2,none⟩=some (.int .i64 TP):=by rw[Zh hx];rfl
  obtain⟨b,hb⟩:=ZA (s.getD i false)
  rw[←hb]at n1 YH
  cases b with
  | false=>
   rw[if_neg (by decide),List.append_nil]at YH
   simp -implicitDefEqProofs only[go_sem,↓reduceIte,f1,f2,f4,f5,f20,f21,ZL,Int.toNat_natCast,n1,y2,y5]
   refine⟨⟨f1,f2,f4,f5,f20,i+1,ZC,rfl,?_⟩,?_⟩
   ·rw[YH,hG,ye]
   ·simp only[vi,Zl,↓reduceIte,f21];omega
  | true=>
   rw[if_pos rfl]at YH
   have Bv:=Nc (VJ top s i) TP (top-8+(i:Int)) (by omega)
   rw[←YH,←ye]at Bv
   have ex:top-8+(i:Int)-TP+8=top+(i:Int)-TP:=by omega
   rw[ex]at Bv
   by_cases hk0:0≤top+(i:Int)-TP
   ·rw[if_pos hk0]at Bv
    obtain⟨j,hj⟩:∃j:Nat,top+(i:Int)-TP=j:=⟨(top+(i:Int)-TP).toNat,by omega⟩
    rw[hj,Int.toNat_natCast]at Bv
    have hj8:(j:Int)<8:=by omega
    have hj0:(0:Int)≤(j:Int):=by omega
    have Zv6:j<8:=by omega
    have hlen:=Ya (.slice pw kl.length cw) ZI TP SS sl8
    have w1:Jh G ⟨bo,3+j,none⟩ (.bool true)=some (G.setIfInBounds bo (.cells (ZP (.slice pw kl.length cw) ZI TP (SS.set j true)).toArray 84)):=by
     rw[Yr hx,if_pos ⟨by rw[hlen];omega,rfl⟩,FN]
    simp -implicitDefEqProofs only[go_sem,↓reduceIte,f1,f2,f4,f5,f20,f21,ZL,Int.toNat_natCast,n1,y2,y5,hj,hj0,hj8,w1]
    refine⟨⟨f1,f2,f4,f5,f20,i+1,ZC,rfl,?_⟩,?_⟩
    ·rw[Bv,hG,set_set]
    ·simp only[vi,Zl,↓reduceIte,f21];omega
   ·rw[if_neg hk0]at Bv
    simp -implicitDefEqProofs only[go_sem,↓reduceIte,f1,f2,f4,f5,f20,f21,ZL,Int.toNat_natCast,n1,y2,y5,hk0]
    refine⟨⟨f1,f2,f4,f5,f20,i+1,ZC,rfl,?_⟩,?_⟩
    ·rw[Bv,hG]
    ·simp only[vi,Zl,↓reduceIte,f21];omega
 ·have YF:¬(i:Int)<8:=by omega
  obtain rfl:i=8:=by omega
  have c8:((8:Nat):Int)=8:=rfl
  rw[c8]at f21 YF
  have Bv:=Nc (VJ top s 8) TP (n:Int) (by omega)
  rw[if_pos (by omega),←ye]at Bv
  have Qf:(J.setIfInBounds bo (.cells (ZP (.slice pw kl.length cw) ZI TP (Xs (VJ top s 8) TP)).toArray 84))[h.size+1]? = some (.cells QZ.toArray 84):=by rw[Array.getElem?_setIfInBounds,if_neg (by omega)];exact J1
  have HB:=JB.Zm (b:=bo) (by omega) (.cells (ZP (.slice pw kl.length cw) ZI TP (Xs (VJ top s 8) TP)).toArray 84)
  have HO:Z1 (h.size+1+1) 5 (J.setIfInBounds bo (.cells (ZP (.slice pw kl.length cw) ZI TP (Xs (VJ top s 8) TP)).toArray 84)) (.slice pw kl.length cw) kl:=
   Jo.MV (x:=some bo) ⟨by simp,fun b hb Ys=>by rw[Array.getElem?_setIfInBounds,if_neg (fun e=>Ys (by rw[e]))]⟩ (fun b hb e=>by have:=Jlt b hb;simp at e;omega)
  rw[←ye]at hx Qf HB HO sl8 ⊢
  obtain⟨j,hj⟩:∃j:Nat,(n:Int)-(TP-8)=j:=⟨((n:Int)-(TP-8)).toNat,by omega⟩
  have hj2:(n:Int)-TP+8=j:=by omega
  rw[hj2,Int.toNat_natCast]at Bv
  have hj8:(j:Int)<8:=by omega
  have hlen:=Ya (.slice pw kl.length cw) ZI TP SS sl8
  obtain⟨G,hG⟩:=ZA (J.setIfInBounds bo (.cells (ZP (.slice pw kl.length cw) ZI TP SS).toArray 84))
  rw[←hG]at hx Qf HB HO ⊢
  have y5:V.hc G ⟨bo,2,none⟩=some (.int .i64 TP):=by rw[Zh hx];rfl
  have w1:Jh G ⟨bo,3+j,none⟩ (.bool true)=some (G.setIfInBounds bo (.cells (ZP (.slice pw kl.length cw) ZI TP (SS.set j true)).toArray 84)):=by
   rw[Yr hx,if_pos ⟨by rw[hlen];omega,rfl⟩,FN]
  rw[Bv]
  have Zdi:(SS.set j true).length=8:=by rw[List.length_set];exact sl8
  obtain⟨S2,hS2⟩:=ZA (SS.set j true)
  rw[←hS2]at w1 Zdi ⊢
  have aI:=Ya (.slice pw kl.length cw) ZI TP S2 Zdi
  have o2:=J6 (p:=pw) (n:=kl.length) (c:=cw) ZI TP S2
  have tk2:=Xg aI
  have hxb:=ZQ (o:=.cells (ZP (.slice pw kl.length cw) ZI TP S2).toArray 84) hx
  have rb:=Zq hxb aI
  have Zlf:(G.setIfInBounds bo (.cells (ZP (.slice pw kl.length cw) ZI TP S2).toArray 84))[h.size+1]? = some (.cells QZ.toArray 84):=by rw[Array.getElem?_setIfInBounds,if_neg (by omega)];exact Qf
  have w2:=wrZ Zlf aI o2
  have k5:=Za Qf
  have HO2:Z1 (h.size+1+1) 5 (G.setIfInBounds bo (.cells (ZP (.slice pw kl.length cw) ZI TP S2).toArray 84)) (.slice pw kl.length cw) kl:=
   HO.MV (x:=some bo) ⟨by simp,fun b hb Ys=>by rw[Array.getElem?_setIfInBounds,if_neg (fun e=>Ys (by rw[e]))]⟩ (fun b hb e=>by have:=Jlt b hb;simp at e;omega)
  have xM:=(HB.Zm (b:=bo) (by omega) (.cells (ZP (.slice pw kl.length cw) ZI TP S2).toArray 84)).Zm (b:=h.size+1) (by omega) (.cells (ZP (.slice pw kl.length cw) ZI TP S2).toArray 84)
  simp -implicitDefEqProofs only[go_sem,↓reduceIte,f1,f2,f4,f5,f20,f21,YF,y5,hj,hj8,Int.toNat_natCast,w1,rb,w2,aI,tk2,k5]
  exact⟨⟨_,rfl,(HO2.ZT (by omega) _).mono (by omega)⟩,xM⟩
theorem kW {a b c d:Nat} (ha:a<256) (hb:b<256) (hc:c<256) (hd:d<256):Z7 .or .i64 (Z7 .or .i64 (Z7 .or .i64 (Yx .i64 (a:Int) 24) (Yx .i64 (b:Int) 16)) (Yx .i64 (c:Int) 8)) (d:Int)=((16777216*a+65536*b+256*c+d:Nat):Int):=by
 have e1:Yx .i64 (a:Int) 24=((a*16777216:Nat):Int):=Vd ha 24 (by omega)
 have e2:Yx .i64 (b:Int) 16=((b*65536:Nat):Int):=Vd hb 16 (by omega)
 have e3:Yx .i64 (c:Int) 8=((c*256:Nat):Int):=Vd hc 8 (by omega)
 have f1:a*16777216 ||| b*65536=a*16777216+b*65536:=JJ (k:=24) (by omega) (by omega)
 have f2:(a*16777216+b*65536) ||| c*256=a*16777216+b*65536+c*256:=JJ (k:=16) (by omega) (by omega)
 rw[e1,e2,e3,Rc _ _ (by omega) (by omega),f1,Rc _ _ (by omega) (by omega),f2,Rc _ _ (by omega) (by omega),JJ (k:=8) (by omega) (by omega)]
 congr 1;omega
def WL (l:List Nat):Nat:=16777216*l.getD 0 0+65536*l.getD 1 0+256*l.getD 2 0+l.getD 3 0
theorem BI {l:List Nat} (w:∀x∈l,x<256) (hl:4≤l.length):YN (WL l)=l.take 4:=by
 match l,hl with
 | a :: b :: c :: d :: l,_=>
  have h1:=w a (by simp)
  have h2:=w b (by simp)
  have h3:=w c (by simp)
  have h4:=w d (by simp)
  show [_,_,_,_]=[a,b,c,d]
  have e:WL (a :: b :: c :: d :: l)=16777216*a+65536*b+256*c+d:=rfl
  rw[e]
  congr 1
  ·omega
  ·congr 1
   ·omega
   ·congr 1
    ·omega
    ·congr 1
     omega
theorem yf {a b c d:Nat} (ha:a<256) (hb:b<256) (hc:c<256) (hd:d<256):16777216*a+65536*b+256*c+d<4294967296:=by omega
theorem qO (l:List Nat):WL l=16777216*l.getD 0 0+65536*l.getD 1 0+256*l.getD 2 0+l.getD 3 0:=by unfold WL;rfl
def VO (kl:List Nat) (ZI top:Int) (s:List Bool) (rc:List Nat):Int:=
 if Xd kl.length ZI top s≠0 then 5 else if 2020<rc.length then 1 else if rc.length<20 then 13 else if 1073741824≤WL rc then 2 else
 if EA top s (WL rc)=true then 7 else PC kl (XW (YN (WL rc))) (YN (WL rc)) (rc.drop 4)
def aJ (kl rc:List Nat):List Nat:=kT kl (XW (YN (WL rc))) (rc.drop 4)
def Ns (top:Int) (s:List Bool) (n:Nat):List Bool:=Xs (VJ top s 8++[(n:Int)]) (max top (n+1))
def Gp (B:Nat) (h':Hp) (v':Value) (kl:List Nat) (ZI top:Int) (s:List Bool) (rc:List Nat):Prop:=∃cw w,v'=.tuple [cw,w,.int .i64 (VO kl ZI top s rc)].toArray ∧
 aH B h' cw (VO kl ZI top s rc) kl ZI (max top (WL rc+1)) (Ns top s (WL rc))∧Z1 B 5 h' w (if VO kl ZI top s rc=0 then aJ kl rc else [])
theorem kX {top:Int} {s:List Bool} {n:Nat} (h:¬EA top s n=true):¬(n:Int)<top-8:=by
 intro ZC
 apply h
 unfold EA
 rw[decide_eq_true ZC];rfl
set_option maxHeartbeats 2000000 in
theorem EB (T:World) (h:Hp) (k u:Value) (kl rc:List Nat) (ZI top:Int) (s:List Bool) (hs:s.length=8) (sk:Bs h k kl) (sp:Bs h u rc) (ck:VF k) (cu:VF u) :
  Zc Tryz.prog T 32 #[.agg (ZP k ZI top s).toArray,u] h fun v' h'=>Gp h.size h' v' kl ZI top s rc∧Zg h.size h h':=by
 have oe:=sp.byte
 obtain⟨p,c,rfl,_⟩:=sk.open
 obtain⟨q,d,rfl,uL⟩:=sp.Uk
 have cu:rc.length≤d:=cu
 have U8:=Ya (.slice p kl.length c) ZI top s hs
 have tk:=Xg U8
 refine Zc.XI (args:=[_,_]) Tryz.func32 rfl rfl rfl rfl ?_
 simp -implicitDefEqProofs only[go_sem,↓reduceIte,U8,tk]
 have Vk:Zg h.size h ((h.push (.cells (ZP (.slice p kl.length c) ZI top s).toArray 84)).push (.cells QZ.toArray 84)):=by (repeat' (first|exact Zg.refl _ _|assumption|refine Zg.add ?_ _|refine Zg.Zm ?_ (by first|omega|(simp;omega)) _|refine Zg.trans (by assumption) ?_))
 refine (Pe T _ p kl.length c ZI top s hs).use ?_
 rintro _ g1 ⟨rfl,b1⟩
 have x0:g1[h.size]? = some (.cells (ZP (.slice p kl.length c) ZI top s).toArray 84):=b1.get (by simp only[Array.size_push];omega) (by simp only[Array.getElem?_push,Array.size_push,IntWalk.iteOmega,↓reduceIte])
 have x1:g1[h.size+1]? = some (.cells QZ.toArray 84):=b1.get (by simp only[Array.size_push];omega) (by simp only[Array.getElem?_push,Array.size_push,IntWalk.iteOmega,↓reduceIte]<;>rfl)
 have QQ:Zg h.size h g1:=Vk.trans (b1.mono (by simp;omega))
 have z1:=Za x1
 clear b1 Vk
 have Tc:VO kl ZI top s rc=if Xd kl.length ZI top s≠0 then 5 else if 2020<rc.length then 1 else if rc.length<20 then 13 else if 1073741824≤WL rc then 2 else
 if EA top s (WL rc)=true then 7 else PC kl (XW (YN (WL rc))) (YN (WL rc)) (rc.drop 4):=rfl
 unfold Gp aH aJ
 have hbe:WL rc=16777216*rc.getD 0 0+65536*rc.getD 1 0+256*rc.getD 2 0+rc.getD 3 0:=qO rc
 have h4:4≤rc.length→YN (WL rc)=rc.take 4:=fun hl=>BI oe hl
 obtain⟨E,hE⟩:=ZA (VO kl ZI top s rc)
 rw[←hE]at Tc ⊢
 clear hE
 obtain⟨n,hn⟩:=ZA (WL rc)
 rw[←hn]at Tc hbe h4 ⊢
 clear hn
 have wz:∀g:Hp,g[h.size+1]? = some (.cells QZ.toArray 84)→wr g ⟨h.size+1,0,none⟩ [.slice none 0 0,.int .i64 0,.int .i64 0,.bool false,.bool false,.bool false,.bool false,.bool false,.bool false,.bool false,.bool false]=some (g.setIfInBounds (h.size+1) (.cells [.slice none 0 0,.int .i64 0,.int .i64 0,.bool false,.bool false,.bool false,.bool false,.bool false,.bool false,.bool false,.bool false].toArray 84)):=fun g hg=>wrZ hg rfl rfl
 have nZ:∀g:Hp,Zg h.size h g→Zg h.size h (g.setIfInBounds (h.size+1) (.cells #[.slice none 0 0,.int .i64 0,.int .i64 0,.bool false,.bool false,.bool false,.bool false,.bool false,.bool false,.bool false,.bool false] 84)):=fun g hg=>hg.Zm (by omega) _
 have wz1:=wz g1 x1
 by_cases e0:Xd kl.length ZI top s=0
 ·obtain⟨hk,s0,s1,t0,t1⟩:=PH e0
  rw[if_neg (by simp[e0])]at Tc
  by_cases hm:2020<rc.length
  ·rw[if_pos hm]at Tc
   have Mi:2020<(rc.length:Int):=by omega
   simp -implicitDefEqProofs only[go_sem,↓reduceIte,e0,Mi,wz1,z1]
   exact⟨⟨_,_,by rw[Tc];rfl,⟨_,rfl,Z1.nil _ _ _⟩,Z1.nil _ _ _⟩,nZ _ QQ⟩
  ·rw[if_neg hm]at Tc
   have Mi:¬2020<(rc.length:Int):=by omega
   by_cases qP:rc.length<20
   ·rw[if_pos qP]at Tc
    have yg:(rc.length:Int)<20:=by omega
    simp -implicitDefEqProofs only[go_sem,↓reduceIte,e0,Mi,yg,wz1,z1]
    exact⟨⟨_,_,by rw[Tc];rfl,⟨_,rfl,Z1.nil _ _ _⟩,Z1.nil _ _ _⟩,nZ _ QQ⟩
   ·rw[if_neg qP]at Tc
    have yg:¬(rc.length:Int)<20:=by omega
    obtain⟨bb,oo,rfl,UP,uL⟩:=uL (by intro e;rw[e]at qP;simp at qP)
    have u0:V.hc g1 ⟨bb,oo+0,none⟩=some (.int .u8 (rc.getD 0 0:Nat)):=by rw[QQ.hc (by exact UP)];exact uL 0 (by omega)
    have u1:V.hc g1 ⟨bb,oo+1,none⟩=some (.int .u8 (rc.getD 1 0:Nat)):=by rw[QQ.hc (by exact UP)];exact uL 1 (by omega)
    have u2:V.hc g1 ⟨bb,oo+2,none⟩=some (.int .u8 (rc.getD 2 0:Nat)):=by rw[QQ.hc (by exact UP)];exact uL 2 (by omega)
    have u3:V.hc g1 ⟨bb,oo+3,none⟩=some (.int .u8 (rc.getD 3 0:Nat)):=by rw[QQ.hc (by exact UP)];exact uL 3 (by omega)
    rw[Nat.add_zero]at u0
    have w0:=ZH oe 0
    have w1:=ZH oe 1
    have w2:=ZH oe 2
    have w3:=ZH oe 3
    have h4:=h4 (by omega)
    have s4:=Sp sp (m:=4) (by omega) 4
    rw[←h4]at s4
    generalize rc.getD 0 0=r0 at *
    generalize rc.getD 1 0=r1 at *
    generalize rc.getD 2 0=r2 at *
    generalize rc.getD 3 0=r3 at *
    have Zdj:Unit→_:=fun _=>Tc
    clear Tc
    have Zke:n<4294967296:=by rw[hbe];exact yf w0 w1 w2 w3
    have d4:(4:Int)≤d:=by omega
    have sh:Unit→Z7 .or .i64 (Z7 .or .i64 (Z7 .or .i64 (Yx .i64 (r0:Int) 24) (Yx .i64 (r1:Int) 16)) (Yx .i64 (r2:Int) 8)) (r3:Int)=(n:Int):=fun _=>by rw[kW w0 w1 w2 w3,hbe]
    clear hbe
    simp -implicitDefEqProofs only[go_sem,↓reduceIte,e0,Mi,yg,d4]
    refine VS.mono (N:=fun F g=>g1=g∧F 1=.slice (some ⟨bb,oo,none⟩) rc.length d∧F 2=.pointer (some ⟨h.size,0,none⟩)∧F 4=.pointer (some ⟨h.size+1,0,none⟩)∧F 8=.slice (some ⟨bb,oo,none⟩) 4 4∧F 9=.int .i64 n) ?_ ?_ (fun _ _ _ h=>h) (fun _ _ h=>h)
    ·refine VS.q mixed (by kernel_rfl) ?_
     simp -implicitDefEqProofs only[go_sem,↓reduceIte,u0,u1,u2,u3]
     exact congrArg _ (sh ())
    clear sh w0 w1 w2 w3
    have Tc:=Zdj ()
    clear Zdj
    rintro F _ ⟨rfl,f1,f2,f4,f8,f9⟩
    by_cases hb:1073741824≤n
    ·rw[if_pos hb]at Tc
     have XZ:(1073741824:Int)≤(n:Int):=by clear Tc;omega
     simp -implicitDefEqProofs only[go_sem,↓reduceIte,f1,f2,f4,f8,f9,XZ,wz1,z1]
     exact⟨⟨_,_,by rw[Tc];rfl,⟨_,rfl,Z1.nil _ _ _⟩,Z1.nil _ _ _⟩,nZ _ QQ⟩
    ·rw[if_neg hb]at Tc
     have XZ:¬(1073741824:Int)≤(n:Int):=by clear Tc;omega
     have rC:rd g1 ⟨h.size,0,none⟩ 11=some (ZP (.slice p kl.length c) ZI top s):=Zq x0 U8
     simp -implicitDefEqProofs only[go_sem,↓reduceIte,f1,f2,f4,f8,f9,XZ,rC]
     refine (yc T _ _ ZI top s n hs t0 t1 (by clear Tc;omega)).use ?_
     rintro _ g2 ⟨rfl,b2⟩
     have x02:=b2.get (Nat.lt_of_succ_lt z1) x0
     have x12:=b2.get z1 x1
     have z2:=b2.size
     have To:=QQ.trans (b2.mono QQ.size)
     have wz2:=wz g2 x12
     have zl2:=Za x12
     by_cases kY:EA top s n=true
     ·rw[if_pos kY]at Tc
      simp -implicitDefEqProofs only[go_sem,↓reduceIte,f1,f2,f4,f8,f9,kY,wz2,zl2]
      exact⟨⟨_,_,by rw[Tc];rfl,⟨_,rfl,Z1.nil _ _ _⟩,Z1.nil _ _ _⟩,nZ _ To⟩
     ·rw[if_neg kY]at Tc
      have ZcX:=kX kY
      have Zdk:EA top s n=false:=by simpa using kY
      have y0:V.hc g2 ⟨h.size,0,none⟩=some (.slice p kl.length c):=by rw[Zh x02];rfl
      have zl0:=Za x02
      have l4:(YN n).length=4:=rfl
      have l12:(XW (YN n)).length≤1000:=by simp[XW,YN]
      have sbk:=Sk sp rfl (k:=4) (by omega) cu (d-4)
      have Zli:(4:Int)≤rc.length:=by clear Tc;omega
      simp -implicitDefEqProofs only[go_sem,↓reduceIte,f1,f2,f4,f8,f9,Zdk]
      refine VS.w (g2.size) [] (.q 0 (.q 1 (.q 2 (.q 4 (.q 5 (.q 6 (.s 3 (.s 7 (.q 8 (.q 9 (.q 10 (.q 11 (.q 12 .nil))))))))))))) mixed (by kernel_rfl) ?_
      simp -implicitDefEqProofs only[go_sem,↓reduceIte,f1,f2,f4,f8,f9,y0,zl0,Zli,QF]
      refine (PD T _ _ _ (s4.Z9 To) (by rw[l4];decide)).use ?_
      rintro vn g3 ⟨on,b3⟩
      have z3:=b3.size
      have b3T:Zg g2.size g2 g3=True:=eq_true b3
      have hB3:=To.trans (b3.mono To.size)
      simp -implicitDefEqProofs only[go_sem,↓reduceIte,f1,f2,f4,f8,f9,b3T]
      refine (qM T _ _ _ _ _ kl (XW (YN n)) (YN n) (rc.drop 4) (sk.Z9 hB3) on.bs (s4.Z9 hB3) (sbk.Z9 hB3) ck on.cap (show rc.length-4≤d-4 by omega)).use ?_
      rintro _ g4 ⟨⟨w4,rfl,o4⟩,b4⟩
      have z4:=b4.size
      have DL:Zg g2.size g2 g4:=b3.trans (b4.mono z3)
      have kV:Zg g2.size g2 g4=True:=eq_true DL
      rw[←Tc]at o4 ⊢
      have x14:=DL.get zl2 x12
      have x04:=DL.get zl0 x02
      have az:=To.trans (DL.mono To.size)
      have wz4:=wz g4 x14
      have zl4:=Za x14
      clear Tc
      by_cases hE0:E=0
      ·subst hE0
       rw[if_pos rfl]at o4
       have rC4:rd g4 ⟨h.size,0,none⟩ 11=some (ZP (.slice p kl.length c) ZI top s):=Zq x04 U8
       simp -implicitDefEqProofs only[go_sem,↓reduceIte,f1,f2,f4,f8,f9,kV,rC4]
       refine (qN T _ _ kl ZI top s n hs (sk.Z9 az) (by omega) t0 t1 (by omega) ZcX).use ?_
       rintro _ g5 ⟨⟨w5,rfl,o5⟩,b5⟩
       have x15:=b5.get zl4 x14
       have z5:=b5.size
       obtain⟨pw,cw,rfl,_⟩:=o5.open
       have l8:(Ns top s n).length=8:=Wz _ _
       have N0:=Ya (.slice pw kl.length cw) ZI (max top ((n:Int)+1)) (Ns top s n) l8
       have oD:=J6 (p:=pw) (n:=kl.length) (c:=cw) ZI (max top ((n:Int)+1)) (Ns top s n)
       have uG:=Xg N0
       have wD:=wrZ x15 N0 oD
       have zl5:=Za x15
       rw[show Xs (VJ top s 8++[(n:Int)]) (max top ((n:Int)+1))=Ns top s n from rfl]
       have o4':=o4.Z9 b5 (Nat.le_refl _)
       obtain⟨C5,hC5⟩:=ZA (ZP (.slice pw kl.length cw) ZI (max top ((n:Int)+1)) (Ns top s n))
       rw[←hC5]at N0 oD uG wD ⊢
       simp -implicitDefEqProofs only[go_sem,↓reduceIte,f1,f2,f4,f8,f9,kV,wD,N0,uG,zl5]
       exact⟨⟨_,_,rfl,⟨_,by rw[hC5],(o5.ZT (by omega) _).mono (by omega)⟩,(o4'.ZT (by omega) _).mono (by omega)⟩,(az.trans (b5.mono az.size)).Zm (by omega) _⟩
      ·rw[if_neg hE0]at o4
       simp -implicitDefEqProofs only[go_sem,↓reduceIte,f1,f2,f4,f8,f9,kV,hE0,wz4,zl4]
       exact⟨⟨_,_,rfl,⟨_,rfl,Z1.nil _ _ _⟩,Z1.nil _ _ _⟩,nZ _ az⟩
 ·rw[if_pos e0]at Tc
  have e5:=(PG kl.length ZI top s).resolve_left e0
  simp -implicitDefEqProofs only[go_sem,↓reduceIte,e5,wz1,z1]
  exact⟨⟨_,_,by rw[Tc];rfl,⟨_,rfl,Z1.nil _ _ _⟩,Z1.nil _ _ _⟩,nZ _ QQ⟩
end Go.Proofs.YtkfhncfkagcamaaGreatDoor
