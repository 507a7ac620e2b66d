/- Bytes padded to sixteen, lengths in eight bytes, and the tag of what is sealed, on both sides; no condition but those in the statements. -/
import Derived.Test.YtnhbpmoeaodmnaaGreatDoorPolg
import Derived.Test.YtnhbpmoeaodmnaaGreatDoorMix
import Derived.Test.YtnhbpmoeaodmnaaGreatDoorBytes
import Derived.Test.YtnhbpmoeaodmnaaGreatDoorVst
import Derived.Test.YtnhbpmoeaodmnaaGreatDoorW15
import Derived.Test.YtnhbpmoeaodmnaaGreatDoorLine
import Derived.Test.YtnhbpmoeaodmnaaGreatDoorW13
namespace Go.Proofs.YtnhbpmoeaodmnaaGreatDoor
open Go Go.V
set_option linter.unusedSimpArgs false
set_option linter.unusedVariables false
set_option maxRecDepth 100000
def Zqk (l:List Nat):List Nat:=l++List.replicate ((16-l.length%16)%16) 0
def ZkV (n:Nat):List Nat:=(List.range 8).map fun i=>n/256 ^ i%256
def Za2 (known XZ:List Nat):List Nat:=Zqk known++Zqk XZ++ZkV known.length++ZkV XZ.length
def Qz (key Zp known XZ:List Nat):List Nat:=Zna ((Xl key 0 Zp).take 32) (Za2 known XZ)
theorem ZkW (l:List Nat):(Zqk l).length=l.length+(16-l.length%16)%16:=by simp[Zqk]
theorem ZfL (l:List Nat):(Zqk l).length≤l.length+15:=by rw[ZkW];omega
theorem Jy (n:Nat):(ZkV n).length=8:=by simp[ZkV]
theorem Zik (T:World) (h:Hp) (v:Value) (l:List Nat) (s:Bs h v l) (hl:l.length≤4000) :
  Zd Tryz.prog T 134 #[v] h fun v' h'=>ZZ h.size 5 h' v' (Zqk l)∧Zf h.size h h':=by
 obtain⟨p,c,rfl,hc1⟩:=s.open
 refine Zd.Zi (args:=[_]) Tryz.func134 rfl rfl rfl rfl ?_
 simp -implicitDefEqProofs only[go_sem,↓reduceIte]
 refine Zv (E:=5) (B:=h.size) Yx Tryz.underlying44 tn5 tz5 tb5 (ZZ.nil _ _ _) (Nat.le_refl _) s (by simp;omega) ?_
 intro v1 h1 o1 b1 _
 rw[List.nil_append]at o1
 have e1:((l.length:Nat):Int).tmod 16=((l.length%16:Nat):Int):=rfl
 have e2:(16:Int)-((l.length%16:Nat):Int)=((16-l.length%16:Nat):Int):=by omega
 have e3:((16-l.length%16:Nat):Int).tmod 16=(((16-l.length%16)%16:Nat):Int):=rfl
 simp -implicitDefEqProofs only[go_sem,↓reduceIte,e1,e2,e3]
 refine Zgj (E:=5) (B:=h.size) Yx Tryz.underlying3 tn5 tz5 tb5 o1 b1.size (by omega) ?_
 intro v2 h2 o2 b2 _
 simp -implicitDefEqProofs only[go_sem,↓reduceIte]
 exact⟨o2,b1.trans b2⟩
theorem Zil (T:World) (h:Hp) (n:Nat) (hn:n<9223372036854775808) :
  Zd Tryz.prog T 135 #[.int .i64 n] h fun v' h'=>ZZ h.size 5 h' v' (ZkV n)∧Zf h.size h h':=by
 refine Zd.Zi (args:=[_]) Tryz.func135 rfl rfl rfl rfl ?_
 simp -implicitDefEqProofs only[go_sem,↓reduceIte]
 refine VS.ZW (fun F g=>Zf h.size h g∧F 0=.int .i64 n∧∃j:Nat,j≤8∧F 4=.int .i64 (8*j:Nat)∧ZZ h.size 5 g (F 3) ((ZkV n).take j))
  (fun F _=>64-(vi (F 4)).toNat) rfl ⟨Zf.refl _ _,rfl,0,by omega,rfl,ZZ.nil _ _ _⟩ ?_
 rintro F g ⟨hg,f0,j,hj,f4,ho⟩
 have hgs:=hg.size
 by_cases ZD:j<8
 ·have ZL:((8*j:Nat):Int)<64:=by omega
  have e1:Xe .i64 (n:Int) ((8*j:Nat):Int)=((n/256 ^ j:Nat):Int):=by
   rw[Zch .i64 n (8*j) (by show 8*j≤64;omega),Nat.shiftRight_eq_div_pow,Nat.pow_mul]
  have e2:((n/256 ^ j:Nat):Int)%256=((n/256 ^ j%256:Nat):Int):=rfl
  have e3:¬((8*j:Nat):Int)<0:=by omega
  have e4:((8*j:Nat):Int)+8=((8*(j+1):Nat):Int):=by omega
  simp -implicitDefEqProofs only[go_sem,↓reduceIte,f0,f4,ZL,e1,e2,e3]
  have hX:n/256 ^ j%256<256:=Nat.mod_lt _ (by decide)
  refine Zv (E:=5) (B:=h.size) Yx Tryz.underlying44 tn5 tz5 tb5 (ho.push _) (by simp;omega) (Bs.one hX 1) (by simp[Jy];omega) ?_
  intro v' h' ho' XL _
  simp -implicitDefEqProofs only[go_sem,↓reduceIte,f0,f4,e4]
  refine⟨⟨(hg.Ye hgs _).trans XL,f0,j+1,ZD,rfl,?_⟩,?_⟩
  ·rw[Yi _ j (by rw[Jy];exact ZD)]
   have e:(ZkV n)[j]'(by rw[Jy];exact ZD)=n/256 ^ j%256:=by simp[ZkV]
   rw[e];exact ho'
  ·simp only[vi,Zk,↓reduceIte,f4];omega
 ·have YK:¬((8*j:Nat):Int)<64:=by omega
  obtain rfl:j=8:=by omega
  rw[List.take_of_length_le (by rw[Jy];exact Nat.le_refl _)]at ho
  simp -implicitDefEqProofs only[go_sem,↓reduceIte,f0,f4,YK]
  exact⟨ho,hg⟩
theorem ZcM {key Zp:List Nat} {k:Int} (hk:key.length=32) (hn:Zp.length=12) (h0:0≤k) (h1:k≤1073741824):XA key k Zp=0:=by
 unfold XA
 rw[if_neg (by omega),if_neg (by omega)]
theorem ZhL (key:List Nat) (k:Nat) (Zp:List Nat):(Xl key k Zp).length=64:=by simp[Xl,ZhF]
theorem ZkX {known XZ:List Nat} (hk:known.length≤256) (hs:XZ.length≤2000):(Za2 known XZ).length≤2400:=by
 unfold Za2
 have h1:=ZfL known
 have h2:=ZfL XZ
 simp only[List.length_append,Jy];omega
theorem ZkY {key data:List Nat} (hk:key.length=32) (hd:data.length≤4000):ZaE key data=0:=by
 unfold ZaE;rw[if_neg (by omega)]
set_option maxHeartbeats 1000000 in
theorem Ze6 (T:World) (h:Hp) (v u kn sv:Value) (key Zp known XZ:List Nat) (sk:Bs h v key) (sn:Bs h u Zp) (sw:Bs h kn known) (ss:Bs h sv XZ) (hk:key.length=32) (hn:Zp.length=12) (hw:known.length≤256) (hs:XZ.length≤2000) (ck:Cap v) (cn:Cap u) :
  Zd Tryz.prog T 116 #[v,u,kn,sv] h fun v' h'=>ZZ h.size 5 h' v' (Qz key Zp known XZ)∧Zf h.size h h':=by
 obtain⟨pw,cw,rfl,_⟩:=sw.open
 obtain⟨ps,cs,rfl,_⟩:=ss.open
 refine Zd.Zi (args:=[_,_,_,_]) Tryz.func116 rfl rfl rfl rfl ?_
 simp -implicitDefEqProofs only[go_sem,↓reduceIte]
 refine (ZsI T _ _ _ key Zp 0 sk sn ck cn).use ?_
 rintro _ h1 ⟨⟨w1,rfl,o1⟩,b1⟩
 have e0:=ZcM (k:=0) hk hn (by decide) (by decide)
 rw[e0,if_pos rfl]at o1
 rw[e0]
 have o1:ZZ h.size 5 h1 w1 (Xl key 0 Zp):=o1
 have z1:=b1.size
 simp -implicitDefEqProofs only[go_sem,↓reduceIte]
 refine (Zik T _ _ known (sw.Z9 b1) (by omega)).use ?_
 rintro v2 h2 ⟨o2,b2⟩
 have z2:=b2.size
 have B2:=b1.trans (b2.mono z1)
 simp -implicitDefEqProofs only[go_sem,↓reduceIte]
 refine (Zik T _ _ XZ (ss.Z9 B2) (by omega)).use ?_
 rintro v3 h3 ⟨o3,b3⟩
 have z3:=b3.size
 have B3:=B2.trans (b3.mono (by omega))
 have l1:=ZfL known
 have l2:=ZfL XZ
 simp -implicitDefEqProofs only[go_sem,↓reduceIte]
 refine Zv (E:=5) (B:=h1.size) Yx Tryz.underlying44 tn5 tz5 tb5 (o2.Z9 b3 (Nat.le_refl _)) (by omega) o3.bs (by omega) ?_
 intro v4 h4 o4 b4 _
 have z4:=b4.size
 simp -implicitDefEqProofs only[go_sem,↓reduceIte]
 refine (Zil T _ known.length (by omega)).use ?_
 rintro v5 h5 ⟨o5,b5⟩
 have z5:=b5.size
 simp -implicitDefEqProofs only[go_sem,↓reduceIte]
 refine Zv (E:=5) (B:=h1.size) Yx Tryz.underlying44 tn5 tz5 tb5 (o4.Z9 b5 (Nat.le_refl _)) (by omega) o5.bs (by simp only[List.length_append,Jy];omega) ?_
 intro v6 h6 o6 b6 _
 have z6:=b6.size
 simp -implicitDefEqProofs only[go_sem,↓reduceIte]
 refine (Zil T _ XZ.length (by omega)).use ?_
 rintro v7 h7 ⟨o7,b7⟩
 have z7:=b7.size
 simp -implicitDefEqProofs only[go_sem,↓reduceIte]
 refine Zv (E:=5) (B:=h1.size) Yx Tryz.underlying44 tn5 tz5 tb5 (o6.Z9 b7 (Nat.le_refl _)) (by omega) o7.bs (by simp only[List.length_append,Jy];omega) ?_
 intro v8 h8 o8 b8 _
 have z8:=b8.size
 have o8:ZZ h1.size 5 h8 v8 (Za2 known XZ):=o8
 have B8:Zf h1.size h1 h8:=(((((b2.trans (b3.mono z2)).trans b4).trans (b5.mono (by omega))).trans b6).trans (b7.mono (by omega))).trans b8
 have o1':=o1.Z9 B8 (Nat.le_refl _)
 have hlb:=ZhL key 0 Zp
 obtain⟨pb,cb,rfl,hcb⟩:=o1'.open
 rw[hlb]at hcb o1' ⊢
 have s32:=Zcq o1'.bs (m:=32) (by omega) cb
 have c32:(32:Int)≤cb:=by omega
 have l32:((Xl key 0 Zp).take 32).length=32:=by rw[List.length_take];omega
 have hd:=ZkX hw hs
 simp -implicitDefEqProofs only[go_sem,↓reduceIte,c32]
 refine (ZkU T _ _ _ ((Xl key 0 Zp).take 32) (Za2 known XZ) s32 o8.bs (show 32≤cb by omega) o8.cap).use ?_
 rintro _ h9 ⟨⟨w9,rfl,o9⟩,b9⟩
 have e9:=ZkY (data:=Za2 known XZ) l32 (by omega)
 rw[e9,if_pos rfl]at o9
 rw[e9]
 simp -implicitDefEqProofs only[go_sem,↓reduceIte]
 exact⟨o9.mono (by omega),(b1.trans (B8.mono z1)).trans (b9.mono (by omega))⟩
def X0 (k n w m XB:Nat):Int:=if k≠32∨n≠12∨256<w∨XB<m then 1 else 0
theorem ZdU {k n w m XB:Nat} (e:X0 k n w m XB=0):k=32∧n=12∧w≤256∧m≤XB:=by
 unfold X0 at e
 split at e
 ·cases e
 ·omega
theorem Ze7 {k n w m XB:Nat} (e:¬X0 k n w m XB=0):X0 k n w m XB=1:=by
 unfold X0 at e ⊢
 split
 ·rfl
 ·rename_i h;rw[if_neg h]at e;exact (e rfl).elim
theorem ZdV (T:World) (h:Hp) (p q r s:Option Addr) (k n w m c1 c2 c3 c4 XB:Nat) :
  Zd Tryz.prog T 115 #[.slice p k c1,.slice q n c2,.slice r w c3,.slice s m c4,.int .i64 XB] h fun v' h'=>v'=.int .i64 (X0 k n w m XB)∧h'=h:=by
 refine Zd.Zi (args:=[_,_,_,_,_]) Tryz.func115 rfl rfl rfl rfl ?_
 unfold X0
 by_cases q0:k=32
 ·
  by_cases q1:n=12
  ·
   by_cases q2:w≤256
   ·
    by_cases q3:m≤XB
    ·
     have c0:(k:Int)=32∨¬(k:Int)=32:=by omega
     have c1:(n:Int)=12∨¬(n:Int)=12:=by omega
     have c2:256<(w:Int)∨¬256<(w:Int):=by omega
     have c3:(XB:Int)<(m:Int)∨¬(XB:Int)<(m:Int):=by omega
     rcases c0 with c0|c0<;>rcases c1 with c1|c1<;>rcases c2 with c2|c2<;>rcases c3 with c3|c3<;>first
      | (exfalso;omega)
      | (rw[if_neg (by omega)];simp -implicitDefEqProofs only[go_sem,↓reduceIte,c0,c1,c2,c3])
      | (rw[if_pos (by omega)];simp -implicitDefEqProofs only[go_sem,↓reduceIte,c0,c1,c2,c3])
    ·
     have c0:(k:Int)=32∨¬(k:Int)=32:=by omega
     have c1:(n:Int)=12∨¬(n:Int)=12:=by omega
     have c2:256<(w:Int)∨¬256<(w:Int):=by omega
     have c3:(XB:Int)<(m:Int)∨¬(XB:Int)<(m:Int):=by omega
     rcases c0 with c0|c0<;>rcases c1 with c1|c1<;>rcases c2 with c2|c2<;>rcases c3 with c3|c3<;>first
      | (exfalso;omega)
      | (rw[if_neg (by omega)];simp -implicitDefEqProofs only[go_sem,↓reduceIte,c0,c1,c2,c3])
      | (rw[if_pos (by omega)];simp -implicitDefEqProofs only[go_sem,↓reduceIte,c0,c1,c2,c3])
   ·
    have c0:(k:Int)=32∨¬(k:Int)=32:=by omega
    have c1:(n:Int)=12∨¬(n:Int)=12:=by omega
    have c2:256<(w:Int)∨¬256<(w:Int):=by omega
    have c3:(XB:Int)<(m:Int)∨¬(XB:Int)<(m:Int):=by omega
    rcases c0 with c0|c0<;>rcases c1 with c1|c1<;>rcases c2 with c2|c2<;>rcases c3 with c3|c3<;>first
     | (exfalso;omega)
     | (rw[if_neg (by omega)];simp -implicitDefEqProofs only[go_sem,↓reduceIte,c0,c1,c2,c3])
     | (rw[if_pos (by omega)];simp -implicitDefEqProofs only[go_sem,↓reduceIte,c0,c1,c2,c3])
  ·
   have c0:(k:Int)=32∨¬(k:Int)=32:=by omega
   have c1:(n:Int)=12∨¬(n:Int)=12:=by omega
   have c2:256<(w:Int)∨¬256<(w:Int):=by omega
   have c3:(XB:Int)<(m:Int)∨¬(XB:Int)<(m:Int):=by omega
   rcases c0 with c0|c0<;>rcases c1 with c1|c1<;>rcases c2 with c2|c2<;>rcases c3 with c3|c3<;>first
    | (exfalso;omega)
    | (rw[if_neg (by omega)];simp -implicitDefEqProofs only[go_sem,↓reduceIte,c0,c1,c2,c3])
    | (rw[if_pos (by omega)];simp -implicitDefEqProofs only[go_sem,↓reduceIte,c0,c1,c2,c3])
 ·
  have c0:(k:Int)=32∨¬(k:Int)=32:=by omega
  have c1:(n:Int)=12∨¬(n:Int)=12:=by omega
  have c2:256<(w:Int)∨¬256<(w:Int):=by omega
  have c3:(XB:Int)<(m:Int)∨¬(XB:Int)<(m:Int):=by omega
  rcases c0 with c0|c0<;>rcases c1 with c1|c1<;>rcases c2 with c2|c2<;>rcases c3 with c3|c3<;>first
   | (exfalso;omega)
   | (rw[if_neg (by omega)];simp -implicitDefEqProofs only[go_sem,↓reduceIte,c0,c1,c2,c3])
   | (rw[if_pos (by omega)];simp -implicitDefEqProofs only[go_sem,↓reduceIte,c0,c1,c2,c3])
def Zim (key Zp known plain:List Nat):List Nat:=ZdM key 1 Zp plain++Qz key Zp known (ZdM key 1 Zp plain)
def Zov (B:Nat) (h':Hp) (v':Value) (key Zp known plain:List Nat):Prop:=∃w,v'=.tuple [w,.int .i64 (X0 key.length Zp.length known.length plain.length 2000)].toArray∧ZZ B 5 h' w (if X0 key.length Zp.length known.length plain.length 2000=0 then Zim key Zp known plain else [])
theorem Ze8 {key Zp:List Nat} {k:Int} {n:Nat} (hk:key.length=32) (hn:Zp.length=12) (h0:0≤k) (h1:k≤1073741824) (hm:n≤2000):ZaA key k Zp n=0:=by
 unfold ZaA
 rw[ZcM hk hn h0 h1,if_neg (by simp),if_neg (by omega)]
theorem ZfM (key data:List Nat):(Zna key data).length≤16:=by rw[ZkN];exact Nat.le_refl _
theorem ZvI (T:World) (h:Hp) (v u kn sv:Value) (key Zp known plain:List Nat) (sk:Bs h v key) (sn:Bs h u Zp) (sw:Bs h kn known) (ss:Bs h sv plain) (ck:Cap v) (cn:Cap u) :
  Zd Tryz.prog T 112 #[v,u,kn,sv] h fun v' h'=>Zov h.size h' v' key Zp known plain∧Zf h.size h h':=by
 obtain⟨p,c,rfl,_⟩:=sk.open
 obtain⟨q,d,rfl,_⟩:=sn.open
 obtain⟨pw,cw,rfl,_⟩:=sw.open
 obtain⟨ps,cs,rfl,_⟩:=ss.open
 refine Zd.Zi (args:=[_,_,_,_]) Tryz.func112 rfl rfl rfl rfl ?_
 unfold Zov
 simp -implicitDefEqProofs only[go_sem,↓reduceIte]
 refine (ZdV T _ _ _ _ _ _ _ _ _ _ _ _ _ 2000).pure ?_
 by_cases e:X0 key.length Zp.length known.length plain.length 2000=0
 ·obtain⟨hk,hn,hw,hs⟩:=ZdU e
  rw[e,if_pos rfl]
  simp -implicitDefEqProofs only[go_sem,↓reduceIte,e]
  refine (ZsN T _ _ _ _ key Zp plain 1 sk sn ss ck cn).use ?_
  rintro _ h1 ⟨⟨w1,rfl,o1⟩,b1⟩
  have e1:=Ze8 (k:=1) hk hn (by decide) (by decide) hs
  rw[e1,if_pos rfl]at o1
  rw[e1]
  have o1:ZZ h.size 5 h1 w1 (ZdM key 1 Zp plain):=o1
  have z1:=b1.size
  have l1:=Zan key 1 Zp plain
  simp -implicitDefEqProofs only[go_sem,↓reduceIte]
  refine (Ze6 T _ _ _ _ _ key Zp known (ZdM key 1 Zp plain) (sk.Z9 b1) (sn.Z9 b1) (sw.Z9 b1) o1.bs hk hn hw (by omega) ck cn).use ?_
  rintro v2 h2 ⟨o2,b2⟩
  have l2:(Qz key Zp known (ZdM key 1 Zp plain)).length≤16:=ZfM _ _
  have z2:=b2.size
  simp -implicitDefEqProofs only[go_sem,↓reduceIte]
  refine Zv (E:=5) (B:=h.size) Yx Tryz.underlying44 tn5 tz5 tb5 (o1.Z9 b2 (Nat.le_refl _)) (by omega) o2.bs (by omega) ?_
  intro v3 h3 o3 b3 _
  simp -implicitDefEqProofs only[go_sem,↓reduceIte]
  exact⟨⟨_,rfl,o3⟩,(b1.trans (b2.mono z1)).trans b3⟩
 ·have e1:=Ze7 e
  rw[if_neg e]
  simp -implicitDefEqProofs only[go_sem,↓reduceIte,e1]
  exact⟨_,rfl,ZZ.nil _ _ _⟩
theorem Zin (a:Option Addr) (c:Nat):ZmW a 1 c 0=a:=by
 unfold ZmW
 split
 ·rfl
 ·cases a with
  | none=>rfl
  | some a=>simp[Addr.add]
def ZdW (key Zp known data:List Nat):Int:=if X0 key.length Zp.length known.length data.length 2016≠0 then 1 else if data.length<16 then 13 else if Qz key Zp known (data.take (data.length-16))≠data.drop (data.length-16) then 6 else 0
def Zs4 (key Zp data:List Nat):List Nat:=ZdM key 1 Zp (data.take (data.length-16))
def Zow (B:Nat) (h':Hp) (v':Value) (key Zp known data:List Nat):Prop:=∃w,v'=.tuple [w,.int .i64 (ZdW key Zp known data)].toArray∧ZZ B 5 h' w (if ZdW key Zp known data=0 then Zs4 key Zp data else [])
theorem ZvJ (T:World) (h:Hp) (v u kn sv:Value) (key Zp known data:List Nat) (sk:Bs h v key) (sn:Bs h u Zp) (sw:Bs h kn known) (ss:Bs h sv data) (ck:Cap v) (cn:Cap u) (cs:Cap sv) :
  Zd Tryz.prog T 81 #[v,u,kn,sv] h fun v' h'=>Zow h.size h' v' key Zp known data∧Zf h.size h h':=by
 obtain⟨p,c,rfl,_⟩:=sk.open
 obtain⟨q,d,rfl,_⟩:=sn.open
 obtain⟨pw,cw,rfl,_⟩:=sw.open
 obtain⟨ps,cd,rfl,_⟩:=ss.open
 have cs:data.length≤cd:=cs
 refine Zd.Zi (args:=[_,_,_,_]) Tryz.func81 rfl rfl rfl rfl ?_
 unfold Zow
 simp -implicitDefEqProofs only[go_sem,↓reduceIte]
 refine (ZdV T _ _ _ _ _ _ _ _ _ _ _ _ _ 2016).pure ?_
 have hoe:ZdW key Zp known data=if X0 key.length Zp.length known.length data.length 2016≠0 then 1 else if data.length<16 then 13 else if Qz key Zp known (data.take (data.length-16))≠data.drop (data.length-16) then 6 else 0:=rfl
 by_cases e:X0 key.length Zp.length known.length data.length 2016=0
 ·obtain⟨hk,hn,hw,hs⟩:=ZdU e
  rw[if_neg (by simp[e])]at hoe
  by_cases h16:data.length<16
  ·rw[if_pos h16]at hoe
   rw[hoe]
   have n0:(data.length:Int)-16<0:=by omega
   simp -implicitDefEqProofs only[go_sem,↓reduceIte,e,n0]
   exact⟨_,rfl,ZZ.nil _ _ _⟩
  ·rw[if_neg h16]at hoe
   have n0:¬((data.length-16:Nat):Int)<0:=by omega
   have n1:(data.length:Int)-16=((data.length-16:Nat):Int):=by omega
   have sfr:=Zcq ss (m:=data.length-16) (by omega) cd
   have sbk:=Zcl ss rfl (k:=data.length-16) (by omega) cs (cd-(data.length-16))
   have lfr:(data.take (data.length-16)).length=data.length-16:=by rw[List.length_take];omega
   have ZA2:((data.length-16:Nat):Int)≤cd:=by omega
   have ZF7:((data.length-16:Nat):Int)≤data.length:=by omega
   simp -implicitDefEqProofs only[go_sem,↓reduceIte,e,n1,n0]
   refine VS.w (h.size) [] (.q 0 (.q 1 (.q 2 (.q 3 (.q 4 (.q 5 (.q 7 (.q 8 (.q 9 (.s 6 (.s 10 (.q 11 .nil)))))))))))) mixed (by kernel_rfl) ?_
   simp -implicitDefEqProofs only[go_sem,↓reduceIte,ZA2,ZF7,Int.toNat_natCast,QO,Zin]
   refine (Ze6 T _ _ _ _ _ key Zp known (data.take (data.length-16)) sk sn sw sfr hk hn hw (by omega) ck cn).use ?_
   rintro v1 h1 ⟨o1,b1⟩
   have l1:(Qz key Zp known (data.take (data.length-16))).length≤16:=ZfM _ _
   simp -implicitDefEqProofs only[go_sem,↓reduceIte,b1]
   refine (Zi9 T _ _ _ _ _ o1.bs (sbk.Z9 b1) (by omega)).pure ?_
   obtain⟨S,hS⟩:=Zx (Qz key Zp known (data.take (data.length-16)))
   rw[←hS]at hoe ⊢
   by_cases ht:S=data.drop (data.length-16)
   ·rw[if_neg (by simp[ht])]at hoe
    rw[hoe,if_pos rfl]
    have ht':decide (S=data.drop (data.length-16))=true:=decide_eq_true ht
    simp -implicitDefEqProofs only[go_sem,↓reduceIte,b1,ht',ZA2,QO,Zin]
    refine (ZsN T _ _ _ _ key Zp (data.take (data.length-16)) 1 (sk.Z9 b1) (sn.Z9 b1) (sfr.Z9 b1) ck cn).use ?_
    rintro _ h2 ⟨⟨w2,rfl,o2⟩,b2⟩
    have e2:=Ze8 (k:=1) hk hn (by decide) (by decide) (show (data.take (data.length-16)).length≤2000 by omega)
    rw[e2,if_pos rfl]at o2
    rw[e2]
    have o2:ZZ h1.size 5 h2 w2 (Zs4 key Zp data):=o2
    simp -implicitDefEqProofs only[go_sem,↓reduceIte]
    exact⟨⟨_,rfl,o2.mono b1.size⟩,b1.trans (b2.mono b1.size)⟩
   ·rw[if_pos ht]at hoe
    rw[hoe]
    have ht':decide (S=data.drop (data.length-16))=false:=decide_eq_false ht
    simp -implicitDefEqProofs only[go_sem,↓reduceIte,b1,ht']
    exact⟨_,rfl,ZZ.nil _ _ _⟩
 ·have e1:=Ze7 e
  rw[if_pos e]at hoe
  rw[hoe]
  simp -implicitDefEqProofs only[go_sem,↓reduceIte,e1]
  exact⟨_,rfl,ZZ.nil _ _ _⟩
def YS (n:Nat):List Nat:=[n/16777216%256,n/65536%256,n/256%256,n%256]
theorem Znk (n:Nat):∀x∈YS n,x<256:=by
 intro x hx
 simp only[YS,List.mem_cons,List.not_mem_nil,or_false]at hx
 omega
theorem ZgL (n k:Nat) (hk:k≤64):Xe .i64 (n:Int) (k:Int)=((n/2 ^ k:Nat):Int):=by
 rw[Zch .i64 n k hk,Nat.shiftRight_eq_div_pow]
theorem ZkZ (T:World) (h:Hp) (n:Nat) (hn:n≤1073741824) :
  Zd Tryz.prog T 111 #[.int .i64 n] h fun v' h'=>ZZ h.size 5 h' v' (YS n)∧Zf h.size h h':=by
 refine Zd.Zi (args:=[_]) Tryz.func111 rfl rfl rfl rfl ?_
 have e1:Xe .i64 (n:Int) 24%256=((n/16777216%256:Nat):Int):=by rw[show (24:Int)=((24:Nat):Int) from rfl,ZgL n 24 (by omega)];omega
 have e2:Xe .i64 (n:Int) 16%256=((n/65536%256:Nat):Int):=by rw[show (16:Int)=((16:Nat):Int) from rfl,ZgL n 16 (by omega)];omega
 have e3:Xe .i64 (n:Int) 8%256=((n/256%256:Nat):Int):=by rw[show (8:Int)=((8:Nat):Int) from rfl,ZgL n 8 (by omega)];omega
 have e4:(n:Int)%256=((n%256:Nat):Int):=by omega
 simp -implicitDefEqProofs only[go_sem,↓reduceIte,e1,e2,e3,e4]
 exact ZZ.made (l:=YS n) (Znk n) (Nat.le_refl _)
def X1 (l:List Nat):List Nat:=List.replicate 8 0++l
theorem Zyf:(XP 12 [Value.int .u8 0])=(List.replicate 12 0).map bv:=rfl
theorem ZdX (T:World) (h:Hp) (v:Value) (l:List Nat) (s:Bs h v l) (hl:l.length≤1000) :
  Zd Tryz.prog T 82 #[v] h fun v' h'=>ZZ h.size 5 h' v' (X1 l)∧Zf h.size h h':=by
 refine Zd.Zi (args:=[_]) Tryz.func82 rfl rfl rfl rfl ?_
 simp -implicitDefEqProofs only[go_sem,↓reduceIte,Zyf]
 have o1:ZZ h.size 5 (h.push (.cells ((List.replicate 12 0).map bv).toArray 5)) (.slice (some ⟨h.size,0,none⟩) 8 12) (List.replicate 8 0):=by
  refine⟨.inr ⟨h.size,12,(List.replicate 4 0).map bv,Nat.le_refl _,rfl,?_,by simp,by simp,by simp⟩,fun x hx=>by rw[List.eq_of_mem_replicate hx];decide⟩
  rw[Zb,←List.map_append];rfl
 refine Zv (E:=5) (B:=h.size) Yx Tryz.underlying44 tn5 tz5 tb5 o1 (by simp) (s.Z9 (Zf.push (Nat.le_refl _) _)) (by simp;omega) ?_
 intro v' h' ho' XL _
 simp -implicitDefEqProofs only[go_sem,↓reduceIte]
 exact⟨ho',(Zf.push (Nat.le_refl _) _).trans XL⟩
def Zar (n:Nat) (ZH top:Int) (s:List Bool) (m:Nat):Int:=if Xh n ZH top s≠0 then 5 else if 2000<m then 1 else if ZH=1073741824 then 8 else 0
def Jz:List Bool:=[false,false,false,false,false,false,false,false]
def Znl (kl:List Nat) (n:Nat) (plain:List Nat):List Nat:=YS n++Zim kl (X1 (YS n)) (YS n) plain
def Zox (B:Nat) (h':Hp) (cw:Value) (e:Int) (kl:List Nat) (ZH top:Int) (s:List Bool):Prop:=Zjc B h' cw (if e=0 then kl else []) (if e=0 then ZH else 0) (if e=0 then top else 0) (if e=0 then s else Jz)
def Zjs (B:Nat) (h':Hp) (v':Value) (kl:List Nat) (ZH top:Int) (s:List Bool) (plain:List Nat):Prop:=∃cw w,v'=.tuple [cw,w,.int .i64 (Zar kl.length ZH top s plain.length)].toArray ∧
 Zox B h' cw (Zar kl.length ZH top s plain.length) kl (ZH+1) top s∧ZZ B 5 h' w (if Zar kl.length ZH top s plain.length=0 then Znl kl ZH.toNat plain else [])
theorem ZdY (n:Nat) (ZH top:Int) (s:List Bool):Xh n ZH top s=0∨Xh n ZH top s=5:=by
 unfold Xh
 repeat' split
 all_goals simp
theorem ZdZ {n:Nat} {ZH top:Int} {s:List Bool} (e:Xh n ZH top s=0):n=32∧0≤ZH∧ZH≤1073741824∧0≤top∧top≤1073741824:=by
 unfold Xh at e
 split at e
 ·cases e
 ·omega
theorem wrZ {G:Hp} {b:Nat} (hx:G[b]? = some (.cells Ub.toArray 138)) {w:List Value} (h11:w.length=11) (h1:w.all Z8=true):wr G ⟨b,0,none⟩ w=some (G.setIfInBounds b (.cells w.toArray 138)):=by
 rw[ZQ hx 0 w,ZN (by rw[h11];rfl),if_pos ⟨by rw[h11];exact Nat.le_refl _,h1⟩]
set_option maxHeartbeats 1000000 in
theorem Zk0 (T:World) (h:Hp) (k u:Value) (kl plain:List Nat) (ZH top:Int) (s:List Bool) (hs:s.length=8) (sk:Bs h k kl) (sp:Bs h u plain) (ck:Cap k) :
  Zd Tryz.prog T 77 #[.agg (ZO k ZH top s).toArray,u] h fun v' h'=>Zjs h.size h' v' kl ZH top s plain∧Zf h.size h h':=by
 obtain⟨p,c,rfl,_⟩:=sk.open
 obtain⟨q,d,rfl,_⟩:=sp.open
 have U7:=Ya (.slice p kl.length c) ZH top s hs
 have tk:=Xi U7
 refine Zd.XM (args:=[_,_]) Tryz.func77 rfl rfl rfl rfl ?_
 simp -implicitDefEqProofs only[go_sem,↓reduceIte,U7,tk]
 have ZaZ:Zf h.size h ((h.push (.cells (ZO (.slice p kl.length c) ZH top s).toArray 138)).push (.cells Ub.toArray 138)):=by (repeat' (first|exact Zf.refl _ _|assumption|refine Zf.add ?_ _|refine Zf.Zj ?_ (by first|omega|(simp;omega)) _|refine Zf.trans (by assumption) ?_))
 refine (ZdG T _ p kl.length c ZH top s hs).use ?_
 rintro _ g1 ⟨rfl,b1⟩
 have x0:g1[h.size]? = some (.cells (ZO (.slice p kl.length c) ZH top s).toArray 138):=b1.get (by simp only[Array.size_push];omega) (by simp only[Array.getElem?_push,Array.size_push,IntWalk.iteOmega,↓reduceIte])
 have x1:g1[h.size+1]? = some (.cells Ub.toArray 138):=b1.get (by simp only[Array.size_push];omega) (by simp only[Array.getElem?_push,Array.size_push,IntWalk.iteOmega,↓reduceIte];rfl)
 have Q2:Zf h.size h g1:=ZaZ.trans (b1.mono (by simp;omega))
 have z1:=Za x1
 clear b1 ZaZ
 have hse:Zar kl.length ZH top s plain.length=if Xh kl.length ZH top s≠0 then 5 else if 2000<plain.length then 1 else if ZH=1073741824 then 8 else 0:=rfl
 unfold Zjs Zox
 obtain⟨E,hE⟩:=Zx (Zar kl.length ZH top s plain.length)
 rw[←hE]at hse ⊢
 have wz:=wrZ x1 (w:=[.slice none 0 0,.int .i64 0,.int .i64 0,.bool false,.bool false,.bool false,.bool false,.bool false,.bool false,.bool false,.bool false]) rfl rfl
 have hBz:Zf h.size h (g1.setIfInBounds (h.size+1) (.cells #[.slice none 0 0,.int .i64 0,.int .i64 0,.bool false,.bool false,.bool false,.bool false,.bool false,.bool false,.bool false,.bool false] 138)):=Q2.Zj (by omega) _
 by_cases e0:Xh kl.length ZH top s=0
 ·obtain⟨hk,s0,s1,t0,t1⟩:=ZdZ e0
  rw[if_neg (by simp[e0])]at hse
  by_cases hm:2000<plain.length
  ·rw[if_pos hm]at hse
   have hm':2000<(plain.length:Int):=by omega
   simp -implicitDefEqProofs only[go_sem,↓reduceIte,e0,hm',wz,z1]
   exact⟨⟨_,_,by rw[hse];rfl,⟨_,rfl,ZZ.nil _ _ _⟩,ZZ.nil _ _ _⟩,hBz⟩
  ·rw[if_neg hm]at hse
   have hm':¬2000<(plain.length:Int):=by omega
   have y1:V.hc g1 ⟨h.size,1,none⟩=some (.int .i64 ZH):=by rw[Zg x0];rfl
   have y0:V.hc g1 ⟨h.size,0,none⟩=some (.slice p kl.length c):=by rw[Zg x0];rfl
   by_cases hf:ZH=1073741824
   ·rw[if_pos hf]at hse
    have hf':(ZH=1073741824)=True:=eq_true hf
    simp -implicitDefEqProofs only[go_sem,↓reduceIte,e0,hm',y1,hf',wz,z1]
    exact⟨⟨_,_,by rw[hse];rfl,⟨_,rfl,ZZ.nil _ _ _⟩,ZZ.nil _ _ _⟩,hBz⟩
   ·rw[if_neg hf]at hse
    rw[hse]
    obtain⟨n,rfl⟩:∃n:Nat,ZH=n:=⟨ZH.toNat,by omega⟩
    rw[Int.toNat_natCast]
    simp -implicitDefEqProofs only[go_sem,↓reduceIte,e0,hm',y1,hf]
    refine (ZkZ T _ n (by omega)).use ?_
    rintro vh g2 ⟨oh,b2⟩
    have z2:=b2.size
    have x0':=b2.get (by omega) x0
    have x1':=b2.get (by omega) x1
    have y0':V.hc g2 ⟨h.size,0,none⟩=some (.slice p kl.length c):=by rw[Zg x0'];rfl
    have hB2:=Q2.trans (b2.mono Q2.size)
    have Zeq:h.size<g2.size:=by omega
    simp -implicitDefEqProofs only[go_sem,↓reduceIte]
    refine VS.w (g2.size) [] (.q 0 (.q 1 (.q 2 (.q 4 (.q 5 (.s 3 (.s 6 (.q 7 (.q 8 (.q 9 (.q 10 (.q 11 .nil)))))))))))) mixed (by kernel_rfl) ?_
    simp -implicitDefEqProofs only[go_sem,↓reduceIte,y0',Zeq]
    refine (ZdX T _ _ _ oh.bs (by simp[YS])).use ?_
    rintro vn g3 ⟨on,b3⟩
    have z3:=b3.size
    have b3T:Zf g2.size g2 g3=True:=eq_true b3
    simp -implicitDefEqProofs only[go_sem,↓reduceIte,b3T]
    refine (ZvI T _ _ _ _ _ kl (X1 (YS n)) (YS n) plain ((sk.Z9 hB2).Z9 b3) on.bs (oh.bs.Z9 b3) ((sp.Z9 hB2).Z9 b3) ck on.cap).use ?_
    rintro _ g4 ⟨⟨w4,rfl,o4⟩,b4⟩
    have z4:=b4.size
    have eS:X0 kl.length (X1 (YS n)).length (YS n).length plain.length 2000=0:=by
     unfold X0 X1 YS;rw[if_neg];simp;omega
    rw[eS,if_pos rfl]at o4
    rw[eS]
    have b34:Zf g2.size g2 g4:=b3.trans (b4.mono z3)
    have Zs5:Zf g2.size g2 g4=True:=eq_true b34
    have ZF8:=b34.get (by omega) x0'
    have ZF9:=b34.get (by omega) x1'
    have hB4:=hB2.trans (b34.mono hB2.size)
    have rC:rd g4 ⟨h.size,0,none⟩ 11=some (ZO (.slice p kl.length c) n top s):=Zo ZF8 U7
    simp -implicitDefEqProofs only[go_sem,↓reduceIte,Zs5,rC]
    refine (Zsx T _ _ kl n top s hs (sk.Z9 hB4) (by omega)).use ?_
    rintro _ g5 ⟨⟨w5,rfl,o5⟩,b5⟩
    have z5:=b5.size
    obtain⟨pw,cw,rfl,_⟩:=o5.open
    have ZA3:=b5.get (by omega) ZF9
    have Zfv:=Ya (.slice pw kl.length cw) n top s hs
    have tkD:=Xi Zfv
    have oD:=Qk (p:=pw) (n:=kl.length) (c:=cw) n top s
    have lpD:∀v,Yq [v,.int .i64 0,.int .i64 0,.bool false,.bool false,.bool false,.bool false,.bool false,.bool false,.bool false,.bool false] 0 (ZO (.slice pw kl.length cw) n top s)=ZO (.slice pw kl.length cw) n top s:=fun v=>ZN Zfv
    have nD:nth (ZO (.slice pw kl.length cw) n top s) 1=some (.int .i64 n):=rfl
    have e1:(n:Int)+1=((n+1:Nat):Int):=rfl
    have sD:(ZO (.slice pw kl.length cw) n top s).set 1 (.int .i64 ((n+1:Nat):Int))=ZO (.slice pw kl.length cw) ((n+1:Nat):Int) top s:=rfl
    have Zio:=Ya (.slice pw kl.length cw) ((n+1:Nat):Int) top s hs
    have ZA4:=Xi Zio
    have oD':=Qk (p:=pw) (n:=kl.length) (c:=cw) ((n+1:Nat):Int) top s
    simp -implicitDefEqProofs only[go_sem,↓reduceIte,Zfv,tkD,oD,lpD,nD,e1,sD]
    have rJ:rd (g5.push (.cells (ZO (.slice pw kl.length cw) ((n+1:Nat):Int) top s).toArray 138)) ⟨g5.size,0,none⟩ 11=some (ZO (.slice pw kl.length cw) ((n+1:Nat):Int) top s):=Zo Zb Zio
    have xJ:(g5.push (.cells (ZO (.slice pw kl.length cw) ((n+1:Nat):Int) top s).toArray 138))[g5.size]? = some (.cells (ZO (.slice pw kl.length cw) ((n+1:Nat):Int) top s).toArray 138):=Zb
    have xZ:(g5.push (.cells (ZO (.slice pw kl.length cw) ((n+1:Nat):Int) top s).toArray 138))[h.size+1]? = some (.cells Ub.toArray 138):=by rw[Zq (by omega)];exact ZA3
    have hB5:=hB4.trans (b5.mono hB4.size)
    have hBJ:Zf h.size h (g5.push (.cells (ZO (.slice pw kl.length cw) ((n+1:Nat):Int) top s).toArray 138)):=hB5.Ye hB5.size _
    have ohJ:=(oh.Z9 (b34.trans (b5.mono (by omega))) (Nat.le_refl _)).push (.cells (ZO (.slice pw kl.length cw) ((n+1:Nat):Int) top s).toArray 138)
    have owJ:=o5.push (.cells (ZO (.slice pw kl.length cw) ((n+1:Nat):Int) top s).toArray 138)
    have o4J:=(o4.Z9 b5 (Nat.le_refl _)).push (.cells (ZO (.slice pw kl.length cw) ((n+1:Nat):Int) top s).toArray 138)
    have zJ:(g5.push (.cells (ZO (.slice pw kl.length cw) ((n+1:Nat):Int) top s).toArray 138)).size=g5.size+1:=by simp
    have ZD:=oh.own.lt
    have Zsh:=oh.own.ZE
    have ZA5:=o5.own.ZE
    have ZLH:=o5.own.lt
    have lS:(Zim kl (X1 (YS n)) (YS n) plain).length≤2016:=by
     have l1:=Zan kl 1 (X1 (YS n)) plain
     have l2:(Qz kl (X1 (YS n)) (YS n) (ZdM kl 1 (X1 (YS n)) plain)).length≤16:=ZfM _ _
     unfold Zim;rw[List.length_append];omega
    have lh:(YS n).length=4:=rfl
    obtain⟨J,hJ⟩:=Zx (g5.push (.cells (ZO (.slice pw kl.length cw) ((n+1:Nat):Int) top s).toArray 138))
    rw[←hJ]at rJ xJ xZ hBJ ohJ owJ o4J zJ ⊢
    clear hJ
    have key:∀v' h',ZZ g1.size 5 h' v' (YS n++Zim kl (X1 (YS n)) (YS n) plain)→Zf g1.size J h'→But (ZT vh) J h' →
      rd h' ⟨g5.size,0,none⟩ 11=some (ZO (.slice pw kl.length cw) ((n+1:Nat):Int) top s)∧wr h' ⟨h.size+1,0,none⟩ (ZO (.slice pw kl.length cw) ((n+1:Nat):Int) top s)=some (h'.setIfInBounds (h.size+1) (.cells (ZO (.slice pw kl.length cw) ((n+1:Nat):Int) top s).toArray 138)) ∧
      (Zf (h.size+1) J h'=True)∧(Zf (h.size+1) J (h'.setIfInBounds (h.size+1) (.cells (ZO (.slice pw kl.length cw) ((n+1:Nat):Int) top s).toArray 138))=True)∧h.size+1<h'.size ∧
      ZZ h.size 5 (h'.setIfInBounds (h.size+1) (.cells (ZO (.slice pw kl.length cw) ((n+1:Nat):Int) top s).toArray 138)) (.slice pw kl.length cw) kl ∧
      ZZ h.size 5 (h'.setIfInBounds (h.size+1) (.cells (ZO (.slice pw kl.length cw) ((n+1:Nat):Int) top s).toArray 138)) v' (Znl kl n plain) ∧
      Zf h.size h (h'.setIfInBounds (h.size+1) (.cells (ZO (.slice pw kl.length cw) ((n+1:Nat):Int) top s).toArray 138)):=by
     intro v' h' ho' XL ZcV
     have xZ':=XL.get (k:=h.size+1) (by omega) xZ
     have xJ':h'[g5.size]? = some (.cells (ZO (.slice pw kl.length cw) ((n+1:Nat):Int) top s).toArray 138):=by
      rw[ZcV.block g5.size (by omega) (fun e=>by have:=ZD _ e;omega)];exact xJ
     have ow':=owJ.but ZcV (fun b hb e=>by have:=ZA5 b hb;have:=ZD _ e;omega)
     have ZiX:Zf (h.size+1) J h':=XL.mono (by omega)
     exact⟨Zo xJ' Zio,wrZ xZ' Zio oD',eq_true ZiX,eq_true (ZiX.Zj (Nat.le_refl _) _),Za xZ',(ow'.ZR (by omega) _).mono (by omega),(ho'.ZR (by omega) _).mono (by omega),(hBJ.trans (XL.mono (by omega))).Zj (by omega) _⟩
    refine VS.w (h.size+1) [] (.q 1 (.q 2 (.or 0 (.s 3 (.s 4 (.q 5 (.q 6 .nil)))) (.s 3 (.s 0 (.s 4 (.q 5 (.q 6 .nil)))))))) mixed (by kernel_rfl) ?_
    simp -implicitDefEqProofs only[go_sem,↓reduceIte,rJ]
    refine⟨?_,?_⟩
    ·refine Zv (E:=5) (B:=g1.size) Yx Tryz.underlying44 tn5 tz5 tb5 ohJ (by omega) o4J.bs (by omega) ?_
     intro v' h' ho' XL ZcV
     obtain⟨k1,k2,k3,k4,k5,k6,k7,k8⟩:=key v' h' ho' XL ZcV
     simp -implicitDefEqProofs only[go_sem,↓reduceIte,k1,k2,k3,k4,k5,Zio,ZA4]
     exact⟨⟨_,_,rfl,⟨_,rfl,k6⟩,k7⟩,k8⟩
    ·refine Zv (E:=5) (B:=g1.size) Yx Tryz.underlying44 tn5 tz5 tb5 ohJ (by omega) o4J.bs (by omega) ?_
     intro v' h' ho' XL ZcV
     obtain⟨k1,k2,k3,k4,k5,k6,k7,k8⟩:=key v' h' ho' XL ZcV
     simp -implicitDefEqProofs only[go_sem,↓reduceIte,k1,k2,k3,k4,k5,Zio,ZA4]
     exact⟨⟨_,_,rfl,⟨_,rfl,k6⟩,k7⟩,k8⟩
 ·rw[if_pos e0]at hse
  have e5:=(ZdY kl.length ZH top s).resolve_left e0
  simp -implicitDefEqProofs only[go_sem,↓reduceIte,e5,wz,z1]
  exact⟨⟨_,_,by rw[hse];rfl,⟨_,rfl,ZZ.nil _ _ _⟩,ZZ.nil _ _ _⟩,hBz⟩
def Zk1 (top:Int) (s:List Bool) (n:Nat):Bool:=decide ((n:Int)<top-8)||(decide ((n:Int)<top)&&s.getD ((n:Int)-(top-8)).toNat false)
theorem Zyg (T:World) (h:Hp) (k:Value) (ZH top:Int) (s:List Bool) (n:Nat) (hs:s.length=8) (t0:0≤top) (t1:top≤1073741824) (hn:n<1073741824) :
  Zd Tryz.prog T 80 #[.agg (ZO k ZH top s).toArray,.int .i64 n] h fun v' h'=>v'=.bool (Zk1 top s n)∧Zf h.size h h':=by
 have U7:=Ya k ZH top s hs
 have tk:=Xi U7
 have n2:nth (ZO k ZH top s) 2=some (.int .i64 top):=rfl
 refine Zd.Zi (args:=[_,_]) Tryz.func80 rfl rfl rfl rfl ?_
 unfold Zk1
 by_cases q1:(n:Int)<top-8
 ·have d1:decide ((n:Int)<top-8)=true:=decide_eq_true q1
  simp -implicitDefEqProofs only[go_sem,↓reduceIte,U7,tk,n2,q1,d1,Bool.true_or]
 ·have d1:decide ((n:Int)<top-8)=false:=decide_eq_false q1
  by_cases q2:(n:Int)<top
  ·have d2:decide ((n:Int)<top)=true:=decide_eq_true q2
   obtain⟨i,hi⟩:∃i:Nat,(n:Int)-(top-8)=i:=⟨((n:Int)-(top-8)).toNat,by omega⟩
   have hi8:i<8:=by omega
   have ZGa:(i:Int)<8:=by omega
   have n3:nth (ZO k ZH top s) (3+i)=some (.bool (s.getD i false)):=by
    have:=Zck s i (by omega)
    rw[Yl]at this ⊢
    rw[←this]
    show (k :: .int .i64 ZH :: .int .i64 top :: s.map Value.bool)[3+i]? = _
    rw[Nat.add_comm];rfl
   simp -implicitDefEqProofs only[go_sem,↓reduceIte,U7,tk,n2,q1,q2,d1,d2,hi,ZGa,Int.toNat_natCast,n3,Bool.false_or]
  ·have d2:decide ((n:Int)<top)=false:=decide_eq_false q2
   simp -implicitDefEqProofs only[go_sem,↓reduceIte,U7,tk,n2,q1,q2,d1,d2,Bool.false_or]
theorem Znm (k:Value) (ZH top:Int) (s t:List Bool) (hs:s.length=8) (ht:t.length=8):Yq (ZO k ZH top s) 3 (t.map Value.bool)=ZO k ZH top t:=by
 have:=UJ [k,.int .i64 ZH,.int .i64 top] (s.map Value.bool) (t.map Value.bool)
 rw[ZN (by simp[hs,ht])]at this
 exact this
set_option maxHeartbeats 1000000 in
theorem ZvK (T:World) (h:Hp) (k:Value) (kl:List Nat) (ZH top:Int) (s:List Bool) (n:Nat) (hs:s.length=8) (sk:Bs h k kl) (hk:kl.length≤140737488355328) (t0:0≤top) (t1:top≤1073741824) (hn:n<1073741824) (hm:¬(n:Int)<top-8) :
  Zd Tryz.prog T 83 #[.agg (ZO k ZH top s).toArray,.int .i64 n] h fun v' h'=>Zjc h.size h' v' kl ZH (max top (n+1)) (Xs (Zbn top s 8++[(n:Int)]) (max top (n+1)))∧Zf h.size h h':=by
 obtain⟨p,c,rfl,_⟩:=sk.open
 have U7:=Ya (.slice p kl.length c) ZH top s hs
 have tk:=Xi U7
 refine Zd.XM (args:=[_,_]) Tryz.func83 rfl rfl rfl rfl ?_
 simp -implicitDefEqProofs only[go_sem,↓reduceIte,U7,tk]
 have ZaZ:Zf h.size h ((h.push (.cells (ZO (.slice p kl.length c) ZH top s).toArray 138)).push (.cells Ub.toArray 138)):=by (repeat' (first|exact Zf.refl _ _|assumption|refine Zf.add ?_ _|refine Zf.Zj ?_ (by first|omega|(simp;omega)) _|refine Zf.trans (by assumption) ?_))
 refine (Zsx T _ _ kl ZH top s hs (sk.Z9 ZaZ) hk).use ?_
 rintro _ g1 ⟨⟨w,rfl,o1⟩,b1⟩
 have x0:g1[h.size]? = some (.cells (ZO (.slice p kl.length c) ZH top s).toArray 138):=b1.get (by simp only[Array.size_push];omega) (by simp only[Array.getElem?_push,Array.size_push,IntWalk.iteOmega,↓reduceIte])
 have x1:g1[h.size+1]? = some (.cells Ub.toArray 138):=b1.get (by simp only[Array.size_push];omega) (by simp only[Array.getElem?_push,Array.size_push,IntWalk.iteOmega,↓reduceIte]<;>rfl)
 have Q2:Zf h.size h g1:=ZaZ.trans (b1.mono (by simp;omega))
 have z1:=Za x1
 simp only[Array.size_push]at o1
 obtain⟨pw,cw,rfl,_⟩:=o1.open
 clear b1 ZaZ
 have y2:V.hc g1 ⟨h.size,2,none⟩=some (.int .i64 top):=by rw[Zg x0];rfl
 have Zfv:=Ya (.slice pw kl.length cw) ZH top s hs
 have tkD:=Xi Zfv
 have oD:=Qk (p:=pw) (n:=kl.length) (c:=cw) ZH top s
 have lpD:∀v,Yq [v,.int .i64 0,.int .i64 0,.bool false,.bool false,.bool false,.bool false,.bool false,.bool false,.bool false,.bool false] 0 (ZO (.slice pw kl.length cw) ZH top s)=ZO (.slice pw kl.length cw) ZH top s:=fun v=>ZN Zfv
 have e1:(n:Int)+1=((n+1:Nat):Int):=rfl
 obtain⟨TP,hTP⟩:∃TP:Int,TP=max top (n+1):=⟨_,rfl⟩
 have Zsk:(if ((n+1:Nat):Int)>top then ((n+1:Nat):Int) else top)=TP:=by rw[hTP];split<;>omega
 have sD:(ZO (.slice pw kl.length cw) ZH top s).set 2 (.int .i64 TP)=ZO (.slice pw kl.length cw) ZH TP s:=rfl
 have ZGb:=Ya (.slice pw kl.length cw) ZH TP s hs
 have lE:Yq (ZO (.slice pw kl.length cw) ZH TP s) 3 [.bool false,.bool false,.bool false,.bool false,.bool false,.bool false,.bool false,.bool false]=ZO (.slice pw kl.length cw) ZH TP (Xs (Zbn top s 0) TP):=Znm (.slice pw kl.length cw) ZH TP s Jz hs rfl
 have y0r:rd g1 ⟨h.size,3,none⟩ 8=some (s.map Value.bool):=by
  have hs':(s.map Value.bool).length=8:=by rw[List.length_map,hs]
  have:=Z4 x0 (o:=3) (n:=8) (by rw[U7];omega)
  rw[this]
  have e:(ZO (.slice p kl.length c) ZH top s).drop 3=s.map Value.bool:=rfl
  rw[e,Xi hs']
 rw[←hTP]
 simp -implicitDefEqProofs only[go_sem,↓reduceIte,Zfv,tkD,oD,lpD,y2,e1,Zsk,sD,ZGb,lE,y0r]
 obtain⟨bo,hbo⟩:∃b,b=g1.size:=⟨_,rfl⟩
 obtain⟨J,hJ⟩:=Zx (g1.push (.cells (ZO (.slice pw kl.length cw) ZH TP (Xs (Zbn top s 0) TP)).toArray 138))
 have J5:J[bo]? = some (.cells (ZO (.slice pw kl.length cw) ZH TP (Xs (Zbn top s 0) TP)).toArray 138):=by rw[hJ,hbo];exact Zb
 have J0:J[h.size]? = some (.cells (ZO (.slice p kl.length c) ZH top s).toArray 138):=by rw[hJ,Zq (by omega)];exact x0
 have J1:J[h.size+1]? = some (.cells Ub.toArray 138):=by rw[hJ,Zq (by omega)];exact x1
 have JB:Zf h.size h J:=by rw[hJ];exact Q2.Ye Q2.size _
 have Jo:ZZ (h.size+1+1) 5 J (.slice pw kl.length cw) kl:=by rw[hJ];exact o1.push _
 have Jlt:∀b,ZT (.slice pw kl.length cw)=some b→b<bo:=fun b hb=>by have:=o1.own.lt b hb;omega
 have Jsz:J.size=bo+1:=by rw[hJ,Array.size_push,hbo]
 rw[←hJ,←hbo]
 clear hJ
 refine VS.ZW (fun F g=>F 1=.int .i64 n∧F 2=.pointer (some ⟨h.size,0,none⟩)∧F 4=.pointer (some ⟨h.size+1,0,none⟩)∧F 5=.pointer (some ⟨bo,0,none⟩)∧F 20=.agg (s.map Value.bool).toArray∧∃i:Nat,i≤8∧F 21=.int .i64 i∧g=J.setIfInBounds bo (.cells (ZO (.slice pw kl.length cw) ZH TP (Xs (Zbn top s i) TP)).toArray 138))
  (fun F _=>8-(vi (F 21)).toNat) rfl ⟨rfl,rfl,rfl,rfl,rfl,0,by omega,rfl,(Uc J5).symm⟩ ?_
 rintro F g ⟨f1,f2,f4,f5,f20,i,hi,f21,rfl⟩
 have hx:=ZP (o:=.cells (ZO (.slice pw kl.length cw) ZH TP (Xs (Zbn top s i) TP)).toArray 138) J5
 have hx0:(J.setIfInBounds bo (.cells (ZO (.slice pw kl.length cw) ZH TP (Xs (Zbn top s i) TP)).toArray 138))[h.size]? = some (.cells (ZO (.slice p kl.length c) ZH top s).toArray 138):=by rw[Array.getElem?_setIfInBounds,if_neg (by omega)];exact J0
 have sl8:=Zax (Zbn top s i) TP
 have YN:=ZpM top s i
 obtain⟨SS,hSS⟩:=Zx (Xs (Zbn top s i) TP)
 by_cases ZD:i<8
 ·have ZL:(i:Int)<8:=by omega
  rw[←hSS]at hx hx0 sl8 ⊢
  obtain⟨G,hG⟩:=Zx (J.setIfInBounds bo (.cells (ZO (.slice pw kl.length cw) ZH TP SS).toArray 138))
  rw[←hG]at hx hx0 ⊢
  have n1:=Zck s i (by omega)
  have y2:V.hc G ⟨h.size,2,none⟩=some (.int .i64 top):=by rw[Zg hx0];rfl
  have y5:V.hc G ⟨bo,2,none⟩=some (.int .i64 TP):=by rw[Zg hx];rfl
  obtain⟨b,hb⟩:=Zx (s.getD i false)
  rw[←hb]at n1 YN
  cases b with
  | false=>
   rw[if_neg (by decide),List.append_nil]at YN
   simp -implicitDefEqProofs only[go_sem,↓reduceIte,f1,f2,f4,f5,f20,f21,ZL,Int.toNat_natCast,n1,y2,y5]
   refine⟨⟨f1,f2,f4,f5,f20,i+1,ZD,rfl,?_⟩,?_⟩
   ·rw[YN,hG,hSS]
   ·simp only[vi,Zk,↓reduceIte,f21];omega
  | true=>
   rw[if_pos rfl]at YN
   have hsn:=ZeX (Zbn top s i) TP (top-8+(i:Int)) (by omega)
   rw[←YN,←hSS]at hsn
   have ex:top-8+(i:Int)-TP+8=top+(i:Int)-TP:=by omega
   rw[ex]at hsn
   by_cases hk0:0≤top+(i:Int)-TP
   ·rw[if_pos hk0]at hsn
    obtain⟨j,hj⟩:∃j:Nat,top+(i:Int)-TP=j:=⟨(top+(i:Int)-TP).toNat,by omega⟩
    rw[hj,Int.toNat_natCast]at hsn
    have hj8:(j:Int)<8:=by omega
    have hj0:(0:Int)≤(j:Int):=by omega
    have ZLI:j<8:=by omega
    have hlen:=Ya (.slice pw kl.length cw) ZH TP SS sl8
    have w1:Jp G ⟨bo,3+j,none⟩ (.bool true)=some (G.setIfInBounds bo (.cells (ZO (.slice pw kl.length cw) ZH TP (SS.set j true)).toArray 138)):=by
     rw[Yu hx,if_pos ⟨by rw[hlen];omega,rfl⟩,Zkp]
    simp -implicitDefEqProofs only[go_sem,↓reduceIte,f1,f2,f4,f5,f20,f21,ZL,Int.toNat_natCast,n1,y2,y5,hj,hj0,hj8,w1]
    refine⟨⟨f1,f2,f4,f5,f20,i+1,ZD,rfl,?_⟩,?_⟩
    ·rw[hsn,hG,set_set]
    ·simp only[vi,Zk,↓reduceIte,f21];omega
   ·rw[if_neg hk0]at hsn
    simp -implicitDefEqProofs only[go_sem,↓reduceIte,f1,f2,f4,f5,f20,f21,ZL,Int.toNat_natCast,n1,y2,y5,hk0]
    refine⟨⟨f1,f2,f4,f5,f20,i+1,ZD,rfl,?_⟩,?_⟩
    ·rw[hsn,hG]
    ·simp only[vi,Zk,↓reduceIte,f21];omega
 ·have YK:¬(i:Int)<8:=by omega
  obtain rfl:i=8:=by omega
  have c8:((8:Nat):Int)=8:=rfl
  rw[c8]at f21 YK
  have hsn:=ZeX (Zbn top s 8) TP (n:Int) (by omega)
  rw[if_pos (by omega),←hSS]at hsn
  have Qu:(J.setIfInBounds bo (.cells (ZO (.slice pw kl.length cw) ZH TP (Xs (Zbn top s 8) TP)).toArray 138))[h.size+1]? = some (.cells Ub.toArray 138):=by rw[Array.getElem?_setIfInBounds,if_neg (by omega)];exact J1
  have HB:=JB.Zj (b:=bo) (by omega) (.cells (ZO (.slice pw kl.length cw) ZH TP (Xs (Zbn top s 8) TP)).toArray 138)
  have HO:ZZ (h.size+1+1) 5 (J.setIfInBounds bo (.cells (ZO (.slice pw kl.length cw) ZH TP (Xs (Zbn top s 8) TP)).toArray 138)) (.slice pw kl.length cw) kl:=
   Jo.but (x:=some bo) ⟨by simp,fun b hb Ys=>by rw[Array.getElem?_setIfInBounds,if_neg (fun e=>Ys (by rw[e]))]⟩ (fun b hb e=>by have:=Jlt b hb;simp at e;omega)
  rw[←hSS]at hx Qu HB HO sl8 ⊢
  obtain⟨j,hj⟩:∃j:Nat,(n:Int)-(TP-8)=j:=⟨((n:Int)-(TP-8)).toNat,by omega⟩
  have hj2:(n:Int)-TP+8=j:=by omega
  rw[hj2,Int.toNat_natCast]at hsn
  have hj8:(j:Int)<8:=by omega
  have hlen:=Ya (.slice pw kl.length cw) ZH TP SS sl8
  obtain⟨G,hG⟩:=Zx (J.setIfInBounds bo (.cells (ZO (.slice pw kl.length cw) ZH TP SS).toArray 138))
  rw[←hG]at hx Qu HB HO ⊢
  have y5:V.hc G ⟨bo,2,none⟩=some (.int .i64 TP):=by rw[Zg hx];rfl
  have w1:Jp G ⟨bo,3+j,none⟩ (.bool true)=some (G.setIfInBounds bo (.cells (ZO (.slice pw kl.length cw) ZH TP (SS.set j true)).toArray 138)):=by
   rw[Yu hx,if_pos ⟨by rw[hlen];omega,rfl⟩,Zkp]
  rw[hsn]
  have ZA6:(SS.set j true).length=8:=by rw[List.length_set];exact sl8
  obtain⟨S2,hS2⟩:=Zx (SS.set j true)
  rw[←hS2]at w1 ZA6 ⊢
  have Zoy:=Ya (.slice pw kl.length cw) ZH TP S2 ZA6
  have o2:=Qk (p:=pw) (n:=kl.length) (c:=cw) ZH TP S2
  have tk2:=Xi Zoy
  have hxb:=ZP (o:=.cells (ZO (.slice pw kl.length cw) ZH TP S2).toArray 138) hx
  have rb:=Zo hxb Zoy
  have ZGc:(G.setIfInBounds bo (.cells (ZO (.slice pw kl.length cw) ZH TP S2).toArray 138))[h.size+1]? = some (.cells Ub.toArray 138):=by rw[Array.getElem?_setIfInBounds,if_neg (by omega)];exact Qu
  have w2:=wrZ ZGc Zoy o2
  have k5:=Za Qu
  have HO2:ZZ (h.size+1+1) 5 (G.setIfInBounds bo (.cells (ZO (.slice pw kl.length cw) ZH TP S2).toArray 138)) (.slice pw kl.length cw) kl:=
   HO.but (x:=some bo) ⟨by simp,fun b hb Ys=>by rw[Array.getElem?_setIfInBounds,if_neg (fun e=>Ys (by rw[e]))]⟩ (fun b hb e=>by have:=Jlt b hb;simp at e;omega)
  have HB2:=(HB.Zj (b:=bo) (by omega) (.cells (ZO (.slice pw kl.length cw) ZH TP S2).toArray 138)).Zj (b:=h.size+1) (by omega) (.cells (ZO (.slice pw kl.length cw) ZH TP S2).toArray 138)
  simp -implicitDefEqProofs only[go_sem,↓reduceIte,f1,f2,f4,f5,f20,f21,YK,y5,hj,hj8,Int.toNat_natCast,w1,rb,w2,Zoy,tk2,k5]
  exact⟨⟨_,rfl,(HO2.ZR (by omega) _).mono (by omega)⟩,HB2⟩
theorem Zs6 {a b c d:Nat} (ha:a<256) (hb:b<256) (hc:c<256) (hd:d<256):Z7 .or .i64 (Z7 .or .i64 (Z7 .or .i64 (YC .i64 (a:Int) 24) (YC .i64 (b:Int) 16)) (YC .i64 (c:Int) 8)) (d:Int)=((16777216*a+65536*b+256*c+d:Nat):Int):=by
 have e1:YC .i64 (a:Int) 24=((a*16777216:Nat):Int):=ZaU ha 24 (by omega)
 have e2:YC .i64 (b:Int) 16=((b*65536:Nat):Int):=ZaU hb 16 (by omega)
 have e3:YC .i64 (c:Int) 8=((c*256:Nat):Int):=ZaU hc 8 (by omega)
 have f1:a*16777216 ||| b*65536=a*16777216+b*65536:=JQ (k:=24) (by omega) (by omega)
 have f2:(a*16777216+b*65536) ||| c*256=a*16777216+b*65536+c*256:=JQ (k:=16) (by omega) (by omega)
 rw[e1,e2,e3,ZcU _ _ (by omega) (by omega),f1,ZcU _ _ (by omega) (by omega),f2,ZcU _ _ (by omega) (by omega),JQ (k:=8) (by omega) (by omega)]
 congr 1;omega
def ZaF (l:List Nat):Nat:=16777216*l.getD 0 0+65536*l.getD 1 0+256*l.getD 2 0+l.getD 3 0
theorem Znn {l:List Nat} (w:∀x∈l,x<256) (hl:4≤l.length):YS (ZaF l)=l.take 4:=by
 match l,hl with
 | a :: b :: c :: d :: l,_=>
  have h1:=w a (by simp)
  have h2:=w b (by simp)
  have h3:=w c (by simp)
  have h4:=w d (by simp)
  show [_,_,_,_]=[a,b,c,d]
  have e:ZaF (a :: b :: c :: d :: l)=16777216*a+65536*b+256*c+d:=rfl
  rw[e]
  congr 1
  ·omega
  ·congr 1
   ·omega
   ·congr 1
    ·omega
    ·congr 1
     omega
theorem Zyh {a b c d:Nat} (ha:a<256) (hb:b<256) (hc:c<256) (hd:d<256):16777216*a+65536*b+256*c+d<4294967296:=by omega
theorem ZvL (l:List Nat):ZaF l=16777216*l.getD 0 0+65536*l.getD 1 0+256*l.getD 2 0+l.getD 3 0:=by unfold ZaF;rfl
def Zbt (kl:List Nat) (ZH top:Int) (s:List Bool) (rc:List Nat):Int:=
 if Xh kl.length ZH top s≠0 then 5 else if 2020<rc.length then 1 else if rc.length<20 then 13 else if 1073741824≤ZaF rc then 2 else
 if Zk1 top s (ZaF rc)=true then 7 else ZdW kl (X1 (YS (ZaF rc))) (YS (ZaF rc)) (rc.drop 4)
def Zoz (kl rc:List Nat):List Nat:=Zs4 kl (X1 (YS (ZaF rc))) (rc.drop 4)
def Ze9 (top:Int) (s:List Bool) (n:Nat):List Bool:=Xs (Zbn top s 8++[(n:Int)]) (max top (n+1))
def Zjt (B:Nat) (h':Hp) (v':Value) (kl:List Nat) (ZH top:Int) (s:List Bool) (rc:List Nat):Prop:=∃cw w,v'=.tuple [cw,w,.int .i64 (Zbt kl ZH top s rc)].toArray ∧
 Zox B h' cw (Zbt kl ZH top s rc) kl ZH (max top (ZaF rc+1)) (Ze9 top s (ZaF rc))∧ZZ B 5 h' w (if Zbt kl ZH top s rc=0 then Zoz kl rc else [])
theorem Zs7 {top:Int} {s:List Bool} {n:Nat} (h:¬Zk1 top s n=true):¬(n:Int)<top-8:=by
 intro ZD
 apply h
 unfold Zk1
 rw[decide_eq_true ZD];rfl
set_option maxHeartbeats 2000000 in
theorem Zk2 (T:World) (h:Hp) (k u:Value) (kl rc:List Nat) (ZH top:Int) (s:List Bool) (hs:s.length=8) (sk:Bs h k kl) (sp:Bs h u rc) (ck:Cap k) (cu:Cap u) :
  Zd Tryz.prog T 53 #[.agg (ZO k ZH top s).toArray,u] h fun v' h'=>Zjt h.size h' v' kl ZH top s rc∧Zf h.size h h':=by
 have wr':=sp.byte
 obtain⟨p,c,rfl,_⟩:=sk.open
 obtain⟨q,d,rfl,hqc⟩:=sp.Up
 have cu:rc.length≤d:=cu
 have U7:=Ya (.slice p kl.length c) ZH top s hs
 have tk:=Xi U7
 refine Zd.XM (args:=[_,_]) Tryz.func53 rfl rfl rfl rfl ?_
 simp -implicitDefEqProofs only[go_sem,↓reduceIte,U7,tk]
 have ZaZ:Zf h.size h ((h.push (.cells (ZO (.slice p kl.length c) ZH top s).toArray 138)).push (.cells Ub.toArray 138)):=by (repeat' (first|exact Zf.refl _ _|assumption|refine Zf.add ?_ _|refine Zf.Zj ?_ (by first|omega|(simp;omega)) _|refine Zf.trans (by assumption) ?_))
 refine (ZdG T _ p kl.length c ZH top s hs).use ?_
 rintro _ g1 ⟨rfl,b1⟩
 have x0:g1[h.size]? = some (.cells (ZO (.slice p kl.length c) ZH top s).toArray 138):=b1.get (by simp only[Array.size_push];omega) (by simp only[Array.getElem?_push,Array.size_push,IntWalk.iteOmega,↓reduceIte])
 have x1:g1[h.size+1]? = some (.cells Ub.toArray 138):=b1.get (by simp only[Array.size_push];omega) (by simp only[Array.getElem?_push,Array.size_push,IntWalk.iteOmega,↓reduceIte]<;>rfl)
 have Q2:Zf h.size h g1:=ZaZ.trans (b1.mono (by simp;omega))
 have z1:=Za x1
 clear b1 ZaZ
 have hse:Zbt kl ZH top s rc=if Xh kl.length ZH top s≠0 then 5 else if 2020<rc.length then 1 else if rc.length<20 then 13 else if 1073741824≤ZaF rc then 2 else
 if Zk1 top s (ZaF rc)=true then 7 else ZdW kl (X1 (YS (ZaF rc))) (YS (ZaF rc)) (rc.drop 4):=rfl
 unfold Zjt Zox Zoz
 have hbe:ZaF rc=16777216*rc.getD 0 0+65536*rc.getD 1 0+256*rc.getD 2 0+rc.getD 3 0:=ZvL rc
 have h4:4≤rc.length→YS (ZaF rc)=rc.take 4:=fun hl=>Znn wr' hl
 obtain⟨E,hE⟩:=Zx (Zbt kl ZH top s rc)
 rw[←hE]at hse ⊢
 clear hE
 obtain⟨n,hn⟩:=Zx (ZaF rc)
 rw[←hn]at hse hbe h4 ⊢
 clear hn
 have wz:∀g:Hp,g[h.size+1]? = some (.cells Ub.toArray 138)→wr g ⟨h.size+1,0,none⟩ [.slice none 0 0,.int .i64 0,.int .i64 0,.bool false,.bool false,.bool false,.bool false,.bool false,.bool false,.bool false,.bool false]=some (g.setIfInBounds (h.size+1) (.cells [.slice none 0 0,.int .i64 0,.int .i64 0,.bool false,.bool false,.bool false,.bool false,.bool false,.bool false,.bool false,.bool false].toArray 138)):=fun g hg=>wrZ hg rfl rfl
 have hBz:∀g:Hp,Zf h.size h g→Zf h.size h (g.setIfInBounds (h.size+1) (.cells #[.slice none 0 0,.int .i64 0,.int .i64 0,.bool false,.bool false,.bool false,.bool false,.bool false,.bool false,.bool false,.bool false] 138)):=fun g hg=>hg.Zj (by omega) _
 have wz1:=wz g1 x1
 by_cases e0:Xh kl.length ZH top s=0
 ·obtain⟨hk,s0,s1,t0,t1⟩:=ZdZ e0
  rw[if_neg (by simp[e0])]at hse
  by_cases hm:2020<rc.length
  ·rw[if_pos hm]at hse
   have hm':2020<(rc.length:Int):=by omega
   simp -implicitDefEqProofs only[go_sem,↓reduceIte,e0,hm',wz1,z1]
   exact⟨⟨_,_,by rw[hse];rfl,⟨_,rfl,ZZ.nil _ _ _⟩,ZZ.nil _ _ _⟩,hBz _ Q2⟩
  ·rw[if_neg hm]at hse
   have hm':¬2020<(rc.length:Int):=by omega
   by_cases hm2:rc.length<20
   ·rw[if_pos hm2]at hse
    have Zyi:(rc.length:Int)<20:=by omega
    simp -implicitDefEqProofs only[go_sem,↓reduceIte,e0,hm',Zyi,wz1,z1]
    exact⟨⟨_,_,by rw[hse];rfl,⟨_,rfl,ZZ.nil _ _ _⟩,ZZ.nil _ _ _⟩,hBz _ Q2⟩
   ·rw[if_neg hm2]at hse
    have Zyi:¬(rc.length:Int)<20:=by omega
    obtain⟨bb,oo,rfl,hbb,hqc⟩:=hqc (by intro e;rw[e]at hm2;simp at hm2)
    have u0:V.hc g1 ⟨bb,oo+0,none⟩=some (.int .u8 (rc.getD 0 0:Nat)):=by rw[Q2.hc (by exact hbb)];exact hqc 0 (by omega)
    have u1:V.hc g1 ⟨bb,oo+1,none⟩=some (.int .u8 (rc.getD 1 0:Nat)):=by rw[Q2.hc (by exact hbb)];exact hqc 1 (by omega)
    have u2:V.hc g1 ⟨bb,oo+2,none⟩=some (.int .u8 (rc.getD 2 0:Nat)):=by rw[Q2.hc (by exact hbb)];exact hqc 2 (by omega)
    have u3:V.hc g1 ⟨bb,oo+3,none⟩=some (.int .u8 (rc.getD 3 0:Nat)):=by rw[Q2.hc (by exact hbb)];exact hqc 3 (by omega)
    rw[Nat.add_zero]at u0
    have w0:=ZG wr' 0
    have w1:=ZG wr' 1
    have w2:=ZG wr' 2
    have w3:=ZG wr' 3
    have h4:=h4 (by omega)
    have s4:=Zcq sp (m:=4) (by omega) 4
    rw[←h4]at s4
    generalize rc.getD 0 0=r0 at *
    generalize rc.getD 1 0=r1 at *
    generalize rc.getD 2 0=r2 at *
    generalize rc.getD 3 0=r3 at *
    have ZA7:Unit→_:=fun _=>hse
    clear hse
    have ZFN:n<4294967296:=by rw[hbe];exact Zyh w0 w1 w2 w3
    have d4:(4:Int)≤d:=by omega
    have sh:Unit→Z7 .or .i64 (Z7 .or .i64 (Z7 .or .i64 (YC .i64 (r0:Int) 24) (YC .i64 (r1:Int) 16)) (YC .i64 (r2:Int) 8)) (r3:Int)=(n:Int):=fun _=>by rw[Zs6 w0 w1 w2 w3,hbe]
    clear hbe
    simp -implicitDefEqProofs only[go_sem,↓reduceIte,e0,hm',Zyi,d4]
    refine VS.mono (N:=fun F g=>g1=g∧F 1=.slice (some ⟨bb,oo,none⟩) rc.length d∧F 2=.pointer (some ⟨h.size,0,none⟩)∧F 4=.pointer (some ⟨h.size+1,0,none⟩)∧F 8=.slice (some ⟨bb,oo,none⟩) 4 4∧F 9=.int .i64 n) ?_ ?_ (fun _ _ _ h=>h) (fun _ _ h=>h)
    ·refine VS.q mixed (by kernel_rfl) ?_
     simp -implicitDefEqProofs only[go_sem,↓reduceIte,u0,u1,u2,u3]
     exact congrArg _ (sh ())
    clear sh w0 w1 w2 w3
    have hse:=ZA7 ()
    clear ZA7
    rintro F _ ⟨rfl,f1,f2,f4,f8,f9⟩
    by_cases hb:1073741824≤n
    ·rw[if_pos hb]at hse
     have XL:(1073741824:Int)≤(n:Int):=by clear hse;omega
     simp -implicitDefEqProofs only[go_sem,↓reduceIte,f1,f2,f4,f8,f9,XL,wz1,z1]
     exact⟨⟨_,_,by rw[hse];rfl,⟨_,rfl,ZZ.nil _ _ _⟩,ZZ.nil _ _ _⟩,hBz _ Q2⟩
    ·rw[if_neg hb]at hse
     have XL:¬(1073741824:Int)≤(n:Int):=by clear hse;omega
     have rC:rd g1 ⟨h.size,0,none⟩ 11=some (ZO (.slice p kl.length c) ZH top s):=Zo x0 U7
     simp -implicitDefEqProofs only[go_sem,↓reduceIte,f1,f2,f4,f8,f9,XL,rC]
     refine (Zyg T _ _ ZH top s n hs t0 t1 (by clear hse;omega)).use ?_
     rintro _ g2 ⟨rfl,b2⟩
     have x02:=b2.get (Nat.lt_of_succ_lt z1) x0
     have x12:=b2.get z1 x1
     have z2:=b2.size
     have hB2:=Q2.trans (b2.mono Q2.size)
     have wz2:=wz g2 x12
     have zl2:=Za x12
     by_cases Zs8:Zk1 top s n=true
     ·rw[if_pos Zs8]at hse
      simp -implicitDefEqProofs only[go_sem,↓reduceIte,f1,f2,f4,f8,f9,Zs8,wz2,zl2]
      exact⟨⟨_,_,by rw[hse];rfl,⟨_,rfl,ZZ.nil _ _ _⟩,ZZ.nil _ _ _⟩,hBz _ hB2⟩
     ·rw[if_neg Zs8]at hse
      have ZAS:=Zs7 Zs8
      have ZA8:Zk1 top s n=false:=by simpa using Zs8
      have y0:V.hc g2 ⟨h.size,0,none⟩=some (.slice p kl.length c):=by rw[Zg x02];rfl
      have zl0:=Za x02
      have l4:(YS n).length=4:=rfl
      have l12:(X1 (YS n)).length≤1000:=by simp[X1,YS]
      have sbk:=Zcl sp rfl (k:=4) (by omega) cu (d-4)
      have ZGd:(4:Int)≤rc.length:=by clear hse;omega
      simp -implicitDefEqProofs only[go_sem,↓reduceIte,f1,f2,f4,f8,f9,ZA8]
      refine VS.w (g2.size) [] (.q 0 (.q 1 (.q 2 (.q 4 (.q 5 (.q 6 (.s 3 (.s 7 (.q 8 (.q 9 (.q 10 (.q 11 (.q 12 .nil))))))))))))) mixed (by kernel_rfl) ?_
      simp -implicitDefEqProofs only[go_sem,↓reduceIte,f1,f2,f4,f8,f9,y0,zl0,ZGd,QO]
      refine (ZdX T _ _ _ (s4.Z9 hB2) (by rw[l4];decide)).use ?_
      rintro vn g3 ⟨on,b3⟩
      have z3:=b3.size
      have b3T:Zf g2.size g2 g3=True:=eq_true b3
      have hB3:=hB2.trans (b3.mono hB2.size)
      simp -implicitDefEqProofs only[go_sem,↓reduceIte,f1,f2,f4,f8,f9,b3T]
      refine (ZvJ T _ _ _ _ _ kl (X1 (YS n)) (YS n) (rc.drop 4) (sk.Z9 hB3) on.bs (s4.Z9 hB3) (sbk.Z9 hB3) ck on.cap (show rc.length-4≤d-4 by omega)).use ?_
      rintro _ g4 ⟨⟨w4,rfl,o4⟩,b4⟩
      have z4:=b4.size
      have b34:Zf g2.size g2 g4:=b3.trans (b4.mono z3)
      have Zs5:Zf g2.size g2 g4=True:=eq_true b34
      rw[←hse]at o4 ⊢
      have x14:=b34.get zl2 x12
      have x04:=b34.get zl0 x02
      have hB4:=hB2.trans (b34.mono hB2.size)
      have wz4:=wz g4 x14
      have zl4:=Za x14
      clear hse
      by_cases hE0:E=0
      ·subst hE0
       rw[if_pos rfl]at o4
       have rC4:rd g4 ⟨h.size,0,none⟩ 11=some (ZO (.slice p kl.length c) ZH top s):=Zo x04 U7
       simp -implicitDefEqProofs only[go_sem,↓reduceIte,f1,f2,f4,f8,f9,Zs5,rC4]
       refine (ZvK T _ _ kl ZH top s n hs (sk.Z9 hB4) (by omega) t0 t1 (by omega) ZAS).use ?_
       rintro _ g5 ⟨⟨w5,rfl,o5⟩,b5⟩
       have x15:=b5.get zl4 x14
       have z5:=b5.size
       obtain⟨pw,cw,rfl,_⟩:=o5.open
       have l8:(Ze9 top s n).length=8:=Zax _ _
       have Zfv:=Ya (.slice pw kl.length cw) ZH (max top ((n:Int)+1)) (Ze9 top s n) l8
       have oD:=Qk (p:=pw) (n:=kl.length) (c:=cw) ZH (max top ((n:Int)+1)) (Ze9 top s n)
       have tkD:=Xi Zfv
       have wD:=wrZ x15 Zfv oD
       have zl5:=Za x15
       rw[show Xs (Zbn top s 8++[(n:Int)]) (max top ((n:Int)+1))=Ze9 top s n from rfl]
       have o4':=o4.Z9 b5 (Nat.le_refl _)
       obtain⟨C5,hC5⟩:=Zx (ZO (.slice pw kl.length cw) ZH (max top ((n:Int)+1)) (Ze9 top s n))
       rw[←hC5]at Zfv oD tkD wD ⊢
       simp -implicitDefEqProofs only[go_sem,↓reduceIte,f1,f2,f4,f8,f9,Zs5,wD,Zfv,tkD,zl5]
       exact⟨⟨_,_,rfl,⟨_,by rw[hC5],(o5.ZR (by omega) _).mono (by omega)⟩,(o4'.ZR (by omega) _).mono (by omega)⟩,(hB4.trans (b5.mono hB4.size)).Zj (by omega) _⟩
      ·rw[if_neg hE0]at o4
       simp -implicitDefEqProofs only[go_sem,↓reduceIte,f1,f2,f4,f8,f9,Zs5,hE0,wz4,zl4]
       exact⟨⟨_,_,rfl,⟨_,rfl,ZZ.nil _ _ _⟩,ZZ.nil _ _ _⟩,hBz _ hB4⟩
 ·rw[if_pos e0]at hse
  have e5:=(ZdY kl.length ZH top s).resolve_left e0
  simp -implicitDefEqProofs only[go_sem,↓reduceIte,e5,wz1,z1]
  exact⟨⟨_,_,by rw[hse];rfl,⟨_,rfl,ZZ.nil _ _ _⟩,ZZ.nil _ _ _⟩,hBz _ Q2⟩
end Go.Proofs.YtnhbpmoeaodmnaaGreatDoor
