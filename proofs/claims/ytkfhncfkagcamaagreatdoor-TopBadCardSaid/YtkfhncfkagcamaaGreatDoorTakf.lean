/- Bytes padded to sixteen, lengths in eight bytes, and the tag of what is sealed, on both sides; no condition but those in the statements. -/
import Derived.Test.YtkfhncfkagcamaaGreatDoorPolg
import Derived.Test.YtkfhncfkagcamaaGreatDoorMix
import Derived.Test.YtkfhncfkagcamaaGreatDoorBytes
import Derived.Test.YtkfhncfkagcamaaGreatDoorVst
import Derived.Test.YtkfhncfkagcamaaGreatDoorW15
import Derived.Test.YtkfhncfkagcamaaGreatDoorLine
import Derived.Test.YtkfhncfkagcamaaGreatDoorW13
namespace Go.Proofs.YtkfhncfkagcamaaGreatDoor
open Go Go.V
set_option linter.unusedSimpArgs false
set_option linter.unusedVariables false
set_option maxRecDepth 100000
def gx (l:List Nat):List Nat:=l++List.replicate ((16-l.length%16)%16) 0
def De (n:Nat):List Nat:=(List.range 8).map fun i=>n/256 ^ i%256
def VC (known XZ:List Nat):List Nat:=gx known++gx XZ++De known.length++De XZ.length
def J2 (key Zp known XZ:List Nat):List Nat:=Au ((Xl key 0 Zp).take 32) (VC known XZ)
theorem Df (l:List Nat):(gx l).length=l.length+(16-l.length%16)%16:=by simp[gx]
theorem MM (l:List Nat):(gx l).length≤l.length+15:=by rw[Df];omega
theorem JC (n:Nat):(De n).length=8:=by simp[De]
theorem Ho (T:World) (h:Hp) (v:Value) (l:List Nat) (s:Bs h v l) (hl:l.length≤4000) :
  Zd Tryz.prog T 86 #[v] h fun v' h'=>Z1 h.size 5 h' v' (gx l)∧Ze h.size h h':=by
 obtain⟨p,c,rfl,UA⟩:=s.open
 refine Zd.Zi (args:=[_]) Tryz.func86 rfl rfl rfl rfl ?_
 simp -implicitDefEqProofs only[go_sem,↓reduceIte]
 refine Zv (E:=5) (B:=h.size) Yt Tryz.underlying34 Wf Vh Vg (Z1.nil _ _ _) (Nat.le_refl _) s (by simp;omega) ?_
 intro v1 h1 o1 b1 _
 rw[List.nil_append]at o1
 have e1:((l.length:Nat):Int).tmod 16=((l.length%16:Nat):Int):=rfl
 have e2:(16:Int)-((l.length%16:Nat):Int)=((16-l.length%16:Nat):Int):=by omega
 have e3:((16-l.length%16:Nat):Int).tmod 16=(((16-l.length%16)%16:Nat):Int):=rfl
 simp -implicitDefEqProofs only[go_sem,↓reduceIte,e1,e2,e3]
 refine Lr (E:=5) (B:=h.size) Yt Tryz.underlying3 Wf Vh Vg o1 b1.size (by omega) ?_
 intro v2 h2 o2 b2 _
 simp -implicitDefEqProofs only[go_sem,↓reduceIte]
 exact⟨o2,b1.trans b2⟩
theorem Hq (T:World) (h:Hp) (n:Nat) (hn:n<9223372036854775808) :
  Zd Tryz.prog T 87 #[.int .i64 n] h fun v' h'=>Z1 h.size 5 h' v' (De n)∧Ze h.size h h':=by
 refine Zd.Zi (args:=[_]) Tryz.func87 rfl rfl rfl rfl ?_
 simp -implicitDefEqProofs only[go_sem,↓reduceIte]
 refine VS.ZU (fun F g=>Ze h.size h g∧F 0=.int .i64 n∧∃j:Nat,j≤8∧F 4=.int .i64 (8*j:Nat)∧Z1 h.size 5 g (F 3) ((De n).take j))
  (fun F _=>64-(vi (F 4)).toNat) rfl ⟨Ze.refl _ _,rfl,0,by omega,rfl,Z1.nil _ _ _⟩ ?_
 rintro F g ⟨hg,f0,j,hj,f4,ho⟩
 have S8:=hg.size
 by_cases ZA:j<8
 ·have ZH:((8*j:Nat):Int)<64:=by omega
  have e1:Xa .i64 (n:Int) ((8*j:Nat):Int)=((n/256 ^ j:Nat):Int):=by
   rw[Sx .i64 n (8*j) (by show 8*j≤64;omega),Nat.shiftRight_eq_div_pow,Nat.pow_mul]
  have e2:((n/256 ^ j:Nat):Int)%256=((n/256 ^ j%256:Nat):Int):=rfl
  have e3:¬((8*j:Nat):Int)<0:=by omega
  have e4:((8*j:Nat):Int)+8=((8*(j+1):Nat):Int):=by omega
  simp -implicitDefEqProofs only[go_sem,↓reduceIte,f0,f4,ZH,e1,e2,e3]
  have hX:n/256 ^ j%256<256:=Nat.mod_lt _ (by decide)
  refine Zv (E:=5) (B:=h.size) Yt Tryz.underlying34 Wf Vh Vg (ho.push _) (by simp;omega) (Bs.one hX 1) (by simp[JC];omega) ?_
  intro v' h' Rt X3 _
  simp -implicitDefEqProofs only[go_sem,↓reduceIte,f0,f4,e4]
  refine⟨⟨(hg.Yg S8 _).trans X3,f0,j+1,ZA,rfl,?_⟩,?_⟩
  ·rw[Z9 _ j (by rw[JC];exact ZA)]
   have e:(De n)[j]'(by rw[JC];exact ZA)=n/256 ^ j%256:=by simp[De]
   rw[e];exact Rt
  ·simp only[vi,Zh,↓reduceIte,f4];omega
 ·have YE:¬((8*j:Nat):Int)<64:=by omega
  obtain rfl:j=8:=by omega
  rw[List.take_of_length_le (by rw[JC];exact Nat.le_refl _)]at ho
  simp -implicitDefEqProofs only[go_sem,↓reduceIte,f0,f4,YE]
  exact⟨ho,hg⟩
theorem Re {key Zp:List Nat} {k:Int} (hk:key.length=32) (hn:Zp.length=12) (h0:0≤k) (h1:k≤1073741824):Xx key k Zp=0:=by
 unfold Xx
 rw[if_neg (by omega),if_neg (by omega)]
theorem IF (key:List Nat) (k:Nat) (Zp:List Nat):(Xl key k Zp).length=64:=by simp[Xl,Iz]
theorem Dh {known XZ:List Nat} (hk:known.length≤256) (hs:XZ.length≤2000):(VC known XZ).length≤2400:=by
 unfold VC
 have h1:=MM known
 have h2:=MM XZ
 simp only[List.length_append,JC];omega
theorem Di {key data:List Nat} (hk:key.length=32) (hd:data.length≤4000):WX key data=0:=by
 unfold WX;rw[if_neg (by omega)]
set_option maxHeartbeats 1000000 in
theorem NJ (T:World) (h:Hp) (v u kn sv:Value) (key Zp known XZ:List Nat) (sk:Bs h v key) (sn:Bs h u Zp) (sw:Bs h kn known) (ss:Bs h sv XZ) (hk:key.length=32) (hn:Zp.length=12) (hw:known.length≤256) (hs:XZ.length≤2000) (ck:WO v) (cn:WO u) :
  Zd Tryz.prog T 69 #[v,u,kn,sv] h fun v' h'=>Z1 h.size 5 h' v' (J2 key Zp known XZ)∧Ze h.size h h':=by
 obtain⟨pw,cw,rfl,_⟩:=sw.open
 obtain⟨ps,cs,rfl,_⟩:=ss.open
 refine Zd.Zi (args:=[_,_,_,_]) Tryz.func69 rfl rfl rfl rfl ?_
 simp -implicitDefEqProofs only[go_sem,↓reduceIte]
 refine (my T _ _ _ key Zp 0 sk sn ck cn).use ?_
 rintro _ h1 ⟨⟨w1,rfl,o1⟩,b1⟩
 have e0:=Re (k:=0) hk hn (by decide) (by decide)
 rw[e0,if_pos rfl]at o1
 rw[e0]
 have o1:Z1 h.size 5 h1 w1 (Xl key 0 Zp):=o1
 have z1:=b1.size
 simp -implicitDefEqProofs only[go_sem,↓reduceIte]
 refine (Ho T _ _ known (sw.Z4 b1) (by omega)).use ?_
 rintro v2 h2 ⟨o2,b2⟩
 have z2:=b2.size
 have B2:=b1.trans (b2.mono z1)
 simp -implicitDefEqProofs only[go_sem,↓reduceIte]
 refine (Ho T _ _ XZ (ss.Z4 B2) (by omega)).use ?_
 rintro v3 h3 ⟨o3,b3⟩
 have z3:=b3.size
 have B3:=B2.trans (b3.mono (by omega))
 have l1:=MM known
 have l2:=MM XZ
 simp -implicitDefEqProofs only[go_sem,↓reduceIte]
 refine Zv (E:=5) (B:=h1.size) Yt Tryz.underlying34 Wf Vh Vg (o2.Z4 b3 (Nat.le_refl _)) (by omega) o3.bs (by omega) ?_
 intro v4 h4 o4 b4 _
 have z4:=b4.size
 simp -implicitDefEqProofs only[go_sem,↓reduceIte]
 refine (Hq T _ known.length (by omega)).use ?_
 rintro v5 h5 ⟨o5,b5⟩
 have z5:=b5.size
 simp -implicitDefEqProofs only[go_sem,↓reduceIte]
 refine Zv (E:=5) (B:=h1.size) Yt Tryz.underlying34 Wf Vh Vg (o4.Z4 b5 (Nat.le_refl _)) (by omega) o5.bs (by simp only[List.length_append,JC];omega) ?_
 intro v6 h6 o6 b6 _
 have z6:=b6.size
 simp -implicitDefEqProofs only[go_sem,↓reduceIte]
 refine (Hq T _ XZ.length (by omega)).use ?_
 rintro v7 h7 ⟨o7,b7⟩
 have z7:=b7.size
 simp -implicitDefEqProofs only[go_sem,↓reduceIte]
 refine Zv (E:=5) (B:=h1.size) Yt Tryz.underlying34 Wf Vh Vg (o6.Z4 b7 (Nat.le_refl _)) (by omega) o7.bs (by simp only[List.length_append,JC];omega) ?_
 intro v8 h8 o8 b8 _
 have z8:=b8.size
 have o8:Z1 h1.size 5 h8 v8 (VC known XZ):=o8
 have B8:Ze h1.size h1 h8:=(((((b2.trans (b3.mono z2)).trans b4).trans (b5.mono (by omega))).trans b6).trans (b7.mono (by omega))).trans b8
 have o1':=o1.Z4 B8 (Nat.le_refl _)
 have cE:=IF key 0 Zp
 obtain⟨pb,cb,rfl,H5⟩:=o1'.open
 rw[cE]at H5 o1' ⊢
 have s32:=SI o1'.bs (m:=32) (by omega) cb
 have c32:(32:Int)≤cb:=by omega
 have l32:((Xl key 0 Zp).take 32).length=32:=by rw[List.length_take];omega
 have hd:=Dh hw hs
 simp -implicitDefEqProofs only[go_sem,↓reduceIte,c32]
 refine (Dd T _ _ _ ((Xl key 0 Zp).take 32) (VC known XZ) s32 o8.bs (show 32≤cb by omega) o8.cap).use ?_
 rintro _ h9 ⟨⟨w9,rfl,o9⟩,b9⟩
 have e9:=Di (data:=VC known XZ) l32 (by omega)
 rw[e9,if_pos rfl]at o9
 rw[e9]
 simp -implicitDefEqProofs only[go_sem,↓reduceIte]
 exact⟨o9.mono (by omega),(b1.trans (B8.mono z1)).trans (b9.mono (by omega))⟩
def X0 (k n w m Xb:Nat):Int:=if k≠32∨n≠12∨256<w∨Xb<m then 1 else 0
theorem PT {k n w m Xb:Nat} (e:X0 k n w m Xb=0):k=32∧n=12∧w≤256∧m≤Xb:=by
 unfold X0 at e
 split at e
 ·cases e
 ·omega
theorem NK {k n w m Xb:Nat} (e:¬X0 k n w m Xb=0):X0 k n w m Xb=1:=by
 unfold X0 at e ⊢
 split
 ·rfl
 ·rename_i h;rw[if_neg h]at e;exact (e rfl).elim
theorem PU (T:World) (h:Hp) (p q r s:Option Addr) (k n w m c1 c2 c3 c4 Xb:Nat) :
  Zd Tryz.prog T 68 #[.slice p k c1,.slice q n c2,.slice r w c3,.slice s m c4,.int .i64 Xb] h fun v' h'=>v'=.int .i64 (X0 k n w m Xb)∧h'=h:=by
 refine Zd.Zi (args:=[_,_,_,_,_]) Tryz.func68 rfl rfl rfl rfl ?_
 unfold X0
 by_cases q0:k=32
 ·
  by_cases q1:n=12
  ·
   by_cases q2:w≤256
   ·
    by_cases q3:m≤Xb
    ·
     have c0:(k:Int)=32∨¬(k:Int)=32:=by omega
     have c1:(n:Int)=12∨¬(n:Int)=12:=by omega
     have c2:256<(w:Int)∨¬256<(w:Int):=by omega
     have c3:(Xb:Int)<(m:Int)∨¬(Xb:Int)<(m:Int):=by omega
     rcases c0 with c0|c0<;>rcases c1 with c1|c1<;>rcases c2 with c2|c2<;>rcases c3 with c3|c3<;>first
      | (exfalso;omega)
      | (rw[if_neg (by omega)];simp -implicitDefEqProofs only[go_sem,↓reduceIte,c0,c1,c2,c3])
      | (rw[if_pos (by omega)];simp -implicitDefEqProofs only[go_sem,↓reduceIte,c0,c1,c2,c3])
    ·
     have c0:(k:Int)=32∨¬(k:Int)=32:=by omega
     have c1:(n:Int)=12∨¬(n:Int)=12:=by omega
     have c2:256<(w:Int)∨¬256<(w:Int):=by omega
     have c3:(Xb:Int)<(m:Int)∨¬(Xb:Int)<(m:Int):=by omega
     rcases c0 with c0|c0<;>rcases c1 with c1|c1<;>rcases c2 with c2|c2<;>rcases c3 with c3|c3<;>first
      | (exfalso;omega)
      | (rw[if_neg (by omega)];simp -implicitDefEqProofs only[go_sem,↓reduceIte,c0,c1,c2,c3])
      | (rw[if_pos (by omega)];simp -implicitDefEqProofs only[go_sem,↓reduceIte,c0,c1,c2,c3])
   ·
    have c0:(k:Int)=32∨¬(k:Int)=32:=by omega
    have c1:(n:Int)=12∨¬(n:Int)=12:=by omega
    have c2:256<(w:Int)∨¬256<(w:Int):=by omega
    have c3:(Xb:Int)<(m:Int)∨¬(Xb:Int)<(m:Int):=by omega
    rcases c0 with c0|c0<;>rcases c1 with c1|c1<;>rcases c2 with c2|c2<;>rcases c3 with c3|c3<;>first
     | (exfalso;omega)
     | (rw[if_neg (by omega)];simp -implicitDefEqProofs only[go_sem,↓reduceIte,c0,c1,c2,c3])
     | (rw[if_pos (by omega)];simp -implicitDefEqProofs only[go_sem,↓reduceIte,c0,c1,c2,c3])
  ·
   have c0:(k:Int)=32∨¬(k:Int)=32:=by omega
   have c1:(n:Int)=12∨¬(n:Int)=12:=by omega
   have c2:256<(w:Int)∨¬256<(w:Int):=by omega
   have c3:(Xb:Int)<(m:Int)∨¬(Xb:Int)<(m:Int):=by omega
   rcases c0 with c0|c0<;>rcases c1 with c1|c1<;>rcases c2 with c2|c2<;>rcases c3 with c3|c3<;>first
    | (exfalso;omega)
    | (rw[if_neg (by omega)];simp -implicitDefEqProofs only[go_sem,↓reduceIte,c0,c1,c2,c3])
    | (rw[if_pos (by omega)];simp -implicitDefEqProofs only[go_sem,↓reduceIte,c0,c1,c2,c3])
 ·
  have c0:(k:Int)=32∨¬(k:Int)=32:=by omega
  have c1:(n:Int)=12∨¬(n:Int)=12:=by omega
  have c2:256<(w:Int)∨¬256<(w:Int):=by omega
  have c3:(Xb:Int)<(m:Int)∨¬(Xb:Int)<(m:Int):=by omega
  rcases c0 with c0|c0<;>rcases c1 with c1|c1<;>rcases c2 with c2|c2<;>rcases c3 with c3|c3<;>first
   | (exfalso;omega)
   | (rw[if_neg (by omega)];simp -implicitDefEqProofs only[go_sem,↓reduceIte,c0,c1,c2,c3])
   | (rw[if_pos (by omega)];simp -implicitDefEqProofs only[go_sem,↓reduceIte,c0,c1,c2,c3])
def NL (key Zp known plain:List Nat):List Nat:=QQ key 1 Zp plain++J2 key Zp known (QQ key 1 Zp plain)
def cM (B:Nat) (h':Hp) (v':Value) (key Zp known plain:List Nat):Prop:=∃w,v'=.tuple [w,.int .i64 (X0 key.length Zp.length known.length plain.length 2000)].toArray∧Z1 B 5 h' w (if X0 key.length Zp.length known.length plain.length 2000=0 then NL key Zp known plain else [])
theorem NM {key Zp:List Nat} {k:Int} {n:Nat} (hk:key.length=32) (hn:Zp.length=12) (h0:0≤k) (h1:k≤1073741824) (hm:n≤2000):WT key k Zp n=0:=by
 unfold WT
 rw[Re hk hn h0 h1,if_neg (by simp),if_neg (by omega)]
theorem MN (key data:List Nat):(Au key data).length≤16:=by rw[NB];exact Nat.le_refl _
theorem tQ (T:World) (h:Hp) (v u kn sv:Value) (key Zp known plain:List Nat) (sk:Bs h v key) (sn:Bs h u Zp) (sw:Bs h kn known) (ss:Bs h sv plain) (ck:WO v) (cn:WO u) :
  Zd Tryz.prog T 65 #[v,u,kn,sv] h fun v' h'=>cM h.size h' v' key Zp known plain∧Ze h.size h h':=by
 obtain⟨p,c,rfl,_⟩:=sk.open
 obtain⟨q,d,rfl,_⟩:=sn.open
 obtain⟨pw,cw,rfl,_⟩:=sw.open
 obtain⟨ps,cs,rfl,_⟩:=ss.open
 refine Zd.Zi (args:=[_,_,_,_]) Tryz.func65 rfl rfl rfl rfl ?_
 unfold cM
 simp -implicitDefEqProofs only[go_sem,↓reduceIte]
 refine (PU T _ _ _ _ _ _ _ _ _ _ _ _ _ 2000).pure ?_
 by_cases e:X0 key.length Zp.length known.length plain.length 2000=0
 ·obtain⟨hk,hn,hw,hs⟩:=PT e
  rw[e,if_pos rfl]
  simp -implicitDefEqProofs only[go_sem,↓reduceIte,e]
  refine (mD T _ _ _ _ key Zp plain 1 sk sn ss ck cn).use ?_
  rintro _ h1 ⟨⟨w1,rfl,o1⟩,b1⟩
  have e1:=NM (k:=1) hk hn (by decide) (by decide) hs
  rw[e1,if_pos rfl]at o1
  rw[e1]
  have o1:Z1 h.size 5 h1 w1 (QQ key 1 Zp plain):=o1
  have z1:=b1.size
  have l1:=Jz key 1 Zp plain
  simp -implicitDefEqProofs only[go_sem,↓reduceIte]
  refine (NJ T _ _ _ _ _ key Zp known (QQ key 1 Zp plain) (sk.Z4 b1) (sn.Z4 b1) (sw.Z4 b1) o1.bs hk hn hw (by omega) ck cn).use ?_
  rintro v2 h2 ⟨o2,b2⟩
  have l2:(J2 key Zp known (QQ key 1 Zp plain)).length≤16:=MN _ _
  have z2:=b2.size
  simp -implicitDefEqProofs only[go_sem,↓reduceIte]
  refine Zv (E:=5) (B:=h.size) Yt Tryz.underlying34 Wf Vh Vg (o1.Z4 b2 (Nat.le_refl _)) (by omega) o2.bs (by omega) ?_
  intro v3 h3 o3 b3 _
  simp -implicitDefEqProofs only[go_sem,↓reduceIte]
  exact⟨⟨_,rfl,o3⟩,(b1.trans (b2.mono z1)).trans b3⟩
 ·have e1:=NK e
  rw[if_neg e]
  simp -implicitDefEqProofs only[go_sem,↓reduceIte,e1]
  exact⟨_,rfl,Z1.nil _ _ _⟩
theorem Hr (a:Option Addr) (c:Nat):BZ a 1 c 0=a:=by
 unfold BZ
 split
 ·rfl
 ·cases a with
  | none=>rfl
  | some a=>simp[Addr.add]
def PV (key Zp known data:List Nat):Int:=if X0 key.length Zp.length known.length data.length 2016≠0 then 1 else if data.length<16 then 13 else if J2 key Zp known (data.take (data.length-16))≠data.drop (data.length-16) then 6 else 0
def Dj (key Zp data:List Nat):List Nat:=QQ key 1 Zp (data.take (data.length-16))
def cN (B:Nat) (h':Hp) (v':Value) (key Zp known data:List Nat):Prop:=∃w,v'=.tuple [w,.int .i64 (PV key Zp known data)].toArray∧Z1 B 5 h' w (if PV key Zp known data=0 then Dj key Zp data else [])
theorem tT (T:World) (h:Hp) (v u kn sv:Value) (key Zp known data:List Nat) (sk:Bs h v key) (sn:Bs h u Zp) (sw:Bs h kn known) (ss:Bs h sv data) (ck:WO v) (cn:WO u) (cs:WO sv) :
  Zd Tryz.prog T 48 #[v,u,kn,sv] h fun v' h'=>cN h.size h' v' key Zp known data∧Ze h.size h h':=by
 obtain⟨p,c,rfl,_⟩:=sk.open
 obtain⟨q,d,rfl,_⟩:=sn.open
 obtain⟨pw,cw,rfl,_⟩:=sw.open
 obtain⟨ps,cd,rfl,_⟩:=ss.open
 have cs:data.length≤cd:=cs
 refine Zd.Zi (args:=[_,_,_,_]) Tryz.func48 rfl rfl rfl rfl ?_
 unfold cN
 simp -implicitDefEqProofs only[go_sem,↓reduceIte]
 refine (PU T _ _ _ _ _ _ _ _ _ _ _ _ _ 2016).pure ?_
 have mV:PV key Zp known data=if X0 key.length Zp.length known.length data.length 2016≠0 then 1 else if data.length<16 then 13 else if J2 key Zp known (data.take (data.length-16))≠data.drop (data.length-16) then 6 else 0:=rfl
 by_cases e:X0 key.length Zp.length known.length data.length 2016=0
 ·obtain⟨hk,hn,hw,hs⟩:=PT e
  rw[if_neg (by simp[e])]at mV
  by_cases h16:data.length<16
  ·rw[if_pos h16]at mV
   rw[mV]
   have n0:(data.length:Int)-16<0:=by omega
   simp -implicitDefEqProofs only[go_sem,↓reduceIte,e,n0]
   exact⟨_,rfl,Z1.nil _ _ _⟩
  ·rw[if_neg h16]at mV
   have n0:¬((data.length-16:Nat):Int)<0:=by omega
   have n1:(data.length:Int)-16=((data.length-16:Nat):Int):=by omega
   have sfr:=SI ss (m:=data.length-16) (by omega) cd
   have sbk:=SD ss rfl (k:=data.length-16) (by omega) cs (cd-(data.length-16))
   have lfr:(data.take (data.length-16)).length=data.length-16:=by rw[List.length_take];omega
   have ZeF:((data.length-16:Nat):Int)≤cd:=by omega
   have ZmS:((data.length-16:Nat):Int)≤data.length:=by omega
   simp -implicitDefEqProofs only[go_sem,↓reduceIte,e,n1,n0]
   refine VS.w (h.size) [] (.q 0 (.q 1 (.q 2 (.q 3 (.q 4 (.q 5 (.q 7 (.q 8 (.q 9 (.s 6 (.s 10 (.q 11 .nil)))))))))))) mixed (by kernel_rfl) ?_
   simp -implicitDefEqProofs only[go_sem,↓reduceIte,ZeF,ZmS,Int.toNat_natCast,QP,Hr]
   refine (NJ T _ _ _ _ _ key Zp known (data.take (data.length-16)) sk sn sw sfr hk hn hw (by omega) ck cn).use ?_
   rintro v1 h1 ⟨o1,b1⟩
   have l1:(J2 key Zp known (data.take (data.length-16))).length≤16:=MN _ _
   simp -implicitDefEqProofs only[go_sem,↓reduceIte,b1]
   refine (Gz T _ _ _ _ _ o1.bs (sbk.Z4 b1) (by omega)).pure ?_
   obtain⟨S,hS⟩:=Zu (J2 key Zp known (data.take (data.length-16)))
   rw[←hS]at mV ⊢
   by_cases ht:S=data.drop (data.length-16)
   ·rw[if_neg (by simp[ht])]at mV
    rw[mV,if_pos rfl]
    have ht':decide (S=data.drop (data.length-16))=true:=decide_eq_true ht
    simp -implicitDefEqProofs only[go_sem,↓reduceIte,b1,ht',ZeF,QP,Hr]
    refine (mD T _ _ _ _ key Zp (data.take (data.length-16)) 1 (sk.Z4 b1) (sn.Z4 b1) (sfr.Z4 b1) ck cn).use ?_
    rintro _ h2 ⟨⟨w2,rfl,o2⟩,b2⟩
    have e2:=NM (k:=1) hk hn (by decide) (by decide) (show (data.take (data.length-16)).length≤2000 by omega)
    rw[e2,if_pos rfl]at o2
    rw[e2]
    have o2:Z1 h1.size 5 h2 w2 (Dj key Zp data):=o2
    simp -implicitDefEqProofs only[go_sem,↓reduceIte]
    exact⟨⟨_,rfl,o2.mono b1.size⟩,b1.trans (b2.mono b1.size)⟩
   ·rw[if_pos ht]at mV
    rw[mV]
    have ht':decide (S=data.drop (data.length-16))=false:=decide_eq_false ht
    simp -implicitDefEqProofs only[go_sem,↓reduceIte,b1,ht']
    exact⟨_,rfl,Z1.nil _ _ _⟩
 ·have e1:=NK e
  rw[if_pos e]at mV
  rw[mV]
  simp -implicitDefEqProofs only[go_sem,↓reduceIte,e1]
  exact⟨_,rfl,Z1.nil _ _ _⟩
def Yo (n:Nat):List Nat:=[n/16777216%256,n/65536%256,n/256%256,n%256]
theorem AI (n:Nat):∀x∈Yo n,x<256:=by
 intro x hx
 simp only[Yo,List.mem_cons,List.not_mem_nil,or_false]at hx
 omega
theorem L5 (n k:Nat) (hk:k≤64):Xa .i64 (n:Int) (k:Int)=((n/2 ^ k:Nat):Int):=by
 rw[Sx .i64 n k hk,Nat.shiftRight_eq_div_pow]
theorem Dk (T:World) (h:Hp) (n:Nat) (hn:n≤1073741824) :
  Zd Tryz.prog T 64 #[.int .i64 n] h fun v' h'=>Z1 h.size 5 h' v' (Yo n)∧Ze h.size h h':=by
 refine Zd.Zi (args:=[_]) Tryz.func64 rfl rfl rfl rfl ?_
 have e1:Xa .i64 (n:Int) 24%256=((n/16777216%256:Nat):Int):=by rw[show (24:Int)=((24:Nat):Int) from rfl,L5 n 24 (by omega)];omega
 have e2:Xa .i64 (n:Int) 16%256=((n/65536%256:Nat):Int):=by rw[show (16:Int)=((16:Nat):Int) from rfl,L5 n 16 (by omega)];omega
 have e3:Xa .i64 (n:Int) 8%256=((n/256%256:Nat):Int):=by rw[show (8:Int)=((8:Nat):Int) from rfl,L5 n 8 (by omega)];omega
 have e4:(n:Int)%256=((n%256:Nat):Int):=by omega
 simp -implicitDefEqProofs only[go_sem,↓reduceIte,e1,e2,e3,e4]
 exact Z1.made (l:=Yo n) (AI n) (Nat.le_refl _)
def Xv (l:List Nat):List Nat:=List.replicate 8 0++l
theorem Zai:(XS 12 [Value.int .u8 0])=(List.replicate 12 0).map bv:=rfl
theorem PW (T:World) (h:Hp) (v:Value) (l:List Nat) (s:Bs h v l) (hl:l.length≤1000) :
  Zd Tryz.prog T 49 #[v] h fun v' h'=>Z1 h.size 5 h' v' (Xv l)∧Ze h.size h h':=by
 refine Zd.Zi (args:=[_]) Tryz.func49 rfl rfl rfl rfl ?_
 simp -implicitDefEqProofs only[go_sem,↓reduceIte,Zai]
 have o1:Z1 h.size 5 (h.push (.cells ((List.replicate 12 0).map bv).toArray 5)) (.slice (some ⟨h.size,0,none⟩) 8 12) (List.replicate 8 0):=by
  refine⟨.inr ⟨h.size,12,(List.replicate 4 0).map bv,Nat.le_refl _,rfl,?_,by simp,by simp,by simp⟩,fun x hx=>by rw[List.eq_of_mem_replicate hx];decide⟩
  rw[Zb,←List.map_append];rfl
 refine Zv (E:=5) (B:=h.size) Yt Tryz.underlying34 Wf Vh Vg o1 (by simp) (s.Z4 (Ze.push (Nat.le_refl _) _)) (by simp;omega) ?_
 intro v' h' Rt X3 _
 simp -implicitDefEqProofs only[go_sem,↓reduceIte]
 exact⟨Rt,(Ze.push (Nat.le_refl _) _).trans X3⟩
def WC (n:Nat) (ZG top:Int) (s:List Bool) (m:Nat):Int:=if Xf n ZG top s≠0 then 5 else if 2000<m then 1 else if ZG=1073741824 then 8 else 0
def X1:List Bool:=[false,false,false,false,false,false,false,false]
def L6 (kl:List Nat) (n:Nat) (plain:List Nat):List Nat:=Yo n++NL kl (Xv (Yo n)) (Yo n) plain
def cO (B:Nat) (h':Hp) (cw:Value) (e:Int) (kl:List Nat) (ZG top:Int) (s:List Bool):Prop:=GC B h' cw (if e=0 then kl else []) (if e=0 then ZG else 0) (if e=0 then top else 0) (if e=0 then s else X1)
def GV (B:Nat) (h':Hp) (v':Value) (kl:List Nat) (ZG top:Int) (s:List Bool) (plain:List Nat):Prop:=∃cw w,v'=.tuple [cw,w,.int .i64 (WC kl.length ZG top s plain.length)].toArray ∧
 cO B h' cw (WC kl.length ZG top s plain.length) kl (ZG+1) top s∧Z1 B 5 h' w (if WC kl.length ZG top s plain.length=0 then L6 kl ZG.toNat plain else [])
theorem PX (n:Nat) (ZG top:Int) (s:List Bool):Xf n ZG top s=0∨Xf n ZG top s=5:=by
 unfold Xf
 repeat' split
 all_goals simp
theorem PY {n:Nat} {ZG top:Int} {s:List Bool} (e:Xf n ZG top s=0):n=32∧0≤ZG∧ZG≤1073741824∧0≤top∧top≤1073741824:=by
 unfold Xf at e
 split at e
 ·cases e
 ·omega
theorem wrZ {G:Hp} {b:Nat} (hx:G[b]? = some (.cells Ub.toArray 84)) {w:List Value} (h11:w.length=11) (h1:w.all Z5=true):wr G ⟨b,0,none⟩ w=some (G.setIfInBounds b (.cells w.toArray 84)):=by
 rw[ZP hx 0 w,ZK (by rw[h11];rfl),if_pos ⟨by rw[h11];exact Nat.le_refl _,h1⟩]
set_option maxHeartbeats 1000000 in
theorem Dl (T:World) (h:Hp) (k u:Value) (kl plain:List Nat) (ZG top:Int) (s:List Bool) (hs:s.length=8) (sk:Bs h k kl) (sp:Bs h u plain) (ck:WO k) :
  Zd Tryz.prog T 43 #[.agg (ZN k ZG top s).toArray,u] h fun v' h'=>GV h.size h' v' kl ZG top s plain∧Ze h.size h h':=by
 obtain⟨p,c,rfl,_⟩:=sk.open
 obtain⟨q,d,rfl,_⟩:=sp.open
 have Wg:=Ya (.slice p kl.length c) ZG top s hs
 have tk:=Xg Wg
 refine Zd.XM (args:=[_,_]) Tryz.func43 rfl rfl rfl rfl ?_
 simp -implicitDefEqProofs only[go_sem,↓reduceIte,Wg,tk]
 have Vy:Ze h.size h ((h.push (.cells (ZN (.slice p kl.length c) ZG top s).toArray 84)).push (.cells Ub.toArray 84)):=by (repeat' (first|exact Ze.refl _ _|assumption|refine Ze.add ?_ _|refine Ze.Zk ?_ (by first|omega|(simp;omega)) _|refine Ze.trans (by assumption) ?_))
 refine (PC T _ p kl.length c ZG top s hs).use ?_
 rintro _ g1 ⟨rfl,b1⟩
 have x0:g1[h.size]? = some (.cells (ZN (.slice p kl.length c) ZG top s).toArray 84):=b1.get (by simp only[Array.size_push];omega) (by simp only[Array.getElem?_push,Array.size_push,IntWalk.iteOmega,↓reduceIte])
 have x1:g1[h.size+1]? = some (.cells Ub.toArray 84):=b1.get (by simp only[Array.size_push];omega) (by simp only[Array.getElem?_push,Array.size_push,IntWalk.iteOmega,↓reduceIte];rfl)
 have Q3:Ze h.size h g1:=Vy.trans (b1.mono (by simp;omega))
 have z1:=Za x1
 clear b1 Vy
 have Ty:WC kl.length ZG top s plain.length=if Xf kl.length ZG top s≠0 then 5 else if 2000<plain.length then 1 else if ZG=1073741824 then 8 else 0:=rfl
 unfold GV cO
 obtain⟨E,hE⟩:=Zu (WC kl.length ZG top s plain.length)
 rw[←hE]at Ty ⊢
 have wz:=wrZ x1 (w:=[.slice none 0 0,.int .i64 0,.int .i64 0,.bool false,.bool false,.bool false,.bool false,.bool false,.bool false,.bool false,.bool false]) rfl rfl
 have qu:Ze h.size h (g1.setIfInBounds (h.size+1) (.cells #[.slice none 0 0,.int .i64 0,.int .i64 0,.bool false,.bool false,.bool false,.bool false,.bool false,.bool false,.bool false,.bool false] 84)):=Q3.Zk (by omega) _
 by_cases e0:Xf kl.length ZG top s=0
 ·obtain⟨hk,s0,s1,t0,t1⟩:=PY e0
  rw[if_neg (by simp[e0])]at Ty
  by_cases hm:2000<plain.length
  ·rw[if_pos hm]at Ty
   have My:2000<(plain.length:Int):=by omega
   simp -implicitDefEqProofs only[go_sem,↓reduceIte,e0,My,wz,z1]
   exact⟨⟨_,_,by rw[Ty];rfl,⟨_,rfl,Z1.nil _ _ _⟩,Z1.nil _ _ _⟩,qu⟩
  ·rw[if_neg hm]at Ty
   have My:¬2000<(plain.length:Int):=by omega
   have y1:V.hc g1 ⟨h.size,1,none⟩=some (.int .i64 ZG):=by rw[Zg x0];rfl
   have y0:V.hc g1 ⟨h.size,0,none⟩=some (.slice p kl.length c):=by rw[Zg x0];rfl
   by_cases hf:ZG=1073741824
   ·rw[if_pos hf]at Ty
    have yU:(ZG=1073741824)=True:=eq_true hf
    simp -implicitDefEqProofs only[go_sem,↓reduceIte,e0,My,y1,yU,wz,z1]
    exact⟨⟨_,_,by rw[Ty];rfl,⟨_,rfl,Z1.nil _ _ _⟩,Z1.nil _ _ _⟩,qu⟩
   ·rw[if_neg hf]at Ty
    rw[Ty]
    obtain⟨n,rfl⟩:∃n:Nat,ZG=n:=⟨ZG.toNat,by omega⟩
    rw[Int.toNat_natCast]
    simp -implicitDefEqProofs only[go_sem,↓reduceIte,e0,My,y1,hf]
    refine (Dk T _ n (by omega)).use ?_
    rintro vh g2 ⟨oh,b2⟩
    have z2:=b2.size
    have zR:=b2.get (by omega) x0
    have xq:=b2.get (by omega) x1
    have y0':V.hc g2 ⟨h.size,0,none⟩=some (.slice p kl.length c):=by rw[Zg zR];rfl
    have TG:=Q3.trans (b2.mono Q3.size)
    have RD:h.size<g2.size:=by omega
    simp -implicitDefEqProofs only[go_sem,↓reduceIte]
    refine VS.w (g2.size) [] (.q 0 (.q 1 (.q 2 (.q 4 (.q 5 (.s 3 (.s 6 (.q 7 (.q 8 (.q 9 (.q 10 (.q 11 .nil)))))))))))) mixed (by kernel_rfl) ?_
    simp -implicitDefEqProofs only[go_sem,↓reduceIte,y0',RD]
    refine (PW T _ _ _ oh.bs (by simp[Yo])).use ?_
    rintro vn g3 ⟨on,b3⟩
    have z3:=b3.size
    have b3T:Ze g2.size g2 g3=True:=eq_true b3
    simp -implicitDefEqProofs only[go_sem,↓reduceIte,b3T]
    refine (tQ T _ _ _ _ _ kl (Xv (Yo n)) (Yo n) plain ((sk.Z4 TG).Z4 b3) on.bs (oh.bs.Z4 b3) ((sp.Z4 TG).Z4 b3) ck on.cap).use ?_
    rintro _ g4 ⟨⟨w4,rfl,o4⟩,b4⟩
    have z4:=b4.size
    have eS:X0 kl.length (Xv (Yo n)).length (Yo n).length plain.length 2000=0:=by
     unfold X0 Xv Yo;rw[if_neg];simp;omega
    rw[eS,if_pos rfl]at o4
    rw[eS]
    have CK:Ze g2.size g2 g4:=b3.trans (b4.mono z3)
    have mW:Ze g2.size g2 g4=True:=eq_true CK
    have ZmU:=CK.get (by omega) zR
    have ZmV:=CK.get (by omega) xq
    have cG:=TG.trans (CK.mono TG.size)
    have rC:rd g4 ⟨h.size,0,none⟩ 11=some (ZN (.slice p kl.length c) n top s):=Zo ZmU Wg
    simp -implicitDefEqProofs only[go_sem,↓reduceIte,mW,rC]
    refine (lV T _ _ kl n top s hs (sk.Z4 cG) (by omega)).use ?_
    rintro _ g5 ⟨⟨w5,rfl,o5⟩,b5⟩
    have z5:=b5.size
    obtain⟨pw,cw,rfl,_⟩:=o5.open
    have ZeH:=b5.get (by omega) ZmV
    have Mq:=Ya (.slice pw kl.length cw) n top s hs
    have xu:=Xg Mq
    have oD:=Qd (p:=pw) (n:=kl.length) (c:=cw) n top s
    have lpD:∀v,Yl [v,.int .i64 0,.int .i64 0,.bool false,.bool false,.bool false,.bool false,.bool false,.bool false,.bool false,.bool false] 0 (ZN (.slice pw kl.length cw) n top s)=ZN (.slice pw kl.length cw) n top s:=fun v=>ZK Mq
    have nD:nth (ZN (.slice pw kl.length cw) n top s) 1=some (.int .i64 n):=rfl
    have e1:(n:Int)+1=((n+1:Nat):Int):=rfl
    have sD:(ZN (.slice pw kl.length cw) n top s).set 1 (.int .i64 ((n+1:Nat):Int))=ZN (.slice pw kl.length cw) ((n+1:Nat):Int) top s:=rfl
    have Ht:=Ya (.slice pw kl.length cw) ((n+1:Nat):Int) top s hs
    have ZeI:=Xg Ht
    have oD':=Qd (p:=pw) (n:=kl.length) (c:=cw) ((n+1:Nat):Int) top s
    simp -implicitDefEqProofs only[go_sem,↓reduceIte,Mq,xu,oD,lpD,nD,e1,sD]
    have rJ:rd (g5.push (.cells (ZN (.slice pw kl.length cw) ((n+1:Nat):Int) top s).toArray 84)) ⟨g5.size,0,none⟩ 11=some (ZN (.slice pw kl.length cw) ((n+1:Nat):Int) top s):=Zo Zb Ht
    have xJ:(g5.push (.cells (ZN (.slice pw kl.length cw) ((n+1:Nat):Int) top s).toArray 84))[g5.size]? = some (.cells (ZN (.slice pw kl.length cw) ((n+1:Nat):Int) top s).toArray 84):=Zb
    have xZ:(g5.push (.cells (ZN (.slice pw kl.length cw) ((n+1:Nat):Int) top s).toArray 84))[h.size+1]? = some (.cells Ub.toArray 84):=by rw[Zq (by omega)];exact ZeH
    have hB5:=cG.trans (b5.mono cG.size)
    have hBJ:Ze h.size h (g5.push (.cells (ZN (.slice pw kl.length cw) ((n+1:Nat):Int) top s).toArray 84)):=hB5.Yg hB5.size _
    have ohJ:=(oh.Z4 (CK.trans (b5.mono (by omega))) (Nat.le_refl _)).push (.cells (ZN (.slice pw kl.length cw) ((n+1:Nat):Int) top s).toArray 84)
    have owJ:=o5.push (.cells (ZN (.slice pw kl.length cw) ((n+1:Nat):Int) top s).toArray 84)
    have o4J:=(o4.Z4 b5 (Nat.le_refl _)).push (.cells (ZN (.slice pw kl.length cw) ((n+1:Nat):Int) top s).toArray 84)
    have zJ:(g5.push (.cells (ZN (.slice pw kl.length cw) ((n+1:Nat):Int) top s).toArray 84)).size=g5.size+1:=by simp
    have ZA:=oh.own.lt
    have lj:=oh.own.ZD
    have ZeJ:=o5.own.ZD
    have Zyj:=o5.own.lt
    have lS:(NL kl (Xv (Yo n)) (Yo n) plain).length≤2016:=by
     have l1:=Jz kl 1 (Xv (Yo n)) plain
     have l2:(J2 kl (Xv (Yo n)) (Yo n) (QQ kl 1 (Xv (Yo n)) plain)).length≤16:=MN _ _
     unfold NL;rw[List.length_append];omega
    have lh:(Yo n).length=4:=rfl
    obtain⟨J,hJ⟩:=Zu (g5.push (.cells (ZN (.slice pw kl.length cw) ((n+1:Nat):Int) top s).toArray 84))
    rw[←hJ]at rJ xJ xZ hBJ ohJ owJ o4J zJ ⊢
    clear hJ
    have key:∀v' h',Z1 g1.size 5 h' v' (Yo n++NL kl (Xv (Yo n)) (Yo n) plain)→Ze g1.size J h'→VT (ZM vh) J h' →
      rd h' ⟨g5.size,0,none⟩ 11=some (ZN (.slice pw kl.length cw) ((n+1:Nat):Int) top s)∧wr h' ⟨h.size+1,0,none⟩ (ZN (.slice pw kl.length cw) ((n+1:Nat):Int) top s)=some (h'.setIfInBounds (h.size+1) (.cells (ZN (.slice pw kl.length cw) ((n+1:Nat):Int) top s).toArray 84)) ∧
      (Ze (h.size+1) J h'=True)∧(Ze (h.size+1) J (h'.setIfInBounds (h.size+1) (.cells (ZN (.slice pw kl.length cw) ((n+1:Nat):Int) top s).toArray 84))=True)∧h.size+1<h'.size ∧
      Z1 h.size 5 (h'.setIfInBounds (h.size+1) (.cells (ZN (.slice pw kl.length cw) ((n+1:Nat):Int) top s).toArray 84)) (.slice pw kl.length cw) kl ∧
      Z1 h.size 5 (h'.setIfInBounds (h.size+1) (.cells (ZN (.slice pw kl.length cw) ((n+1:Nat):Int) top s).toArray 84)) v' (L6 kl n plain) ∧
      Ze h.size h (h'.setIfInBounds (h.size+1) (.cells (ZN (.slice pw kl.length cw) ((n+1:Nat):Int) top s).toArray 84)):=by
     intro v' h' Rt X3 Ru
     have xZ':=X3.get (k:=h.size+1) (by omega) xZ
     have xJ':h'[g5.size]? = some (.cells (ZN (.slice pw kl.length cw) ((n+1:Nat):Int) top s).toArray 84):=by
      rw[Ru.block g5.size (by omega) (fun e=>by have:=ZA _ e;omega)];exact xJ
     have ow':=owJ.Mh Ru (fun b hb e=>by have:=ZeJ b hb;have:=ZA _ e;omega)
     have Gk:Ze (h.size+1) J h':=X3.mono (by omega)
     exact⟨Zo xJ' Ht,wrZ xZ' Ht oD',eq_true Gk,eq_true (Gk.Zk (Nat.le_refl _) _),Za xZ',(ow'.ZQ (by omega) _).mono (by omega),(Rt.ZQ (by omega) _).mono (by omega),(hBJ.trans (X3.mono (by omega))).Zk (by omega) _⟩
    refine VS.w (h.size+1) [] (.q 1 (.q 2 (.or 0 (.s 3 (.s 4 (.q 5 (.q 6 .nil)))) (.s 3 (.s 0 (.s 4 (.q 5 (.q 6 .nil)))))))) mixed (by kernel_rfl) ?_
    simp -implicitDefEqProofs only[go_sem,↓reduceIte,rJ]
    refine⟨?_,?_⟩
    ·refine Zv (E:=5) (B:=g1.size) Yt Tryz.underlying34 Wf Vh Vg ohJ (by omega) o4J.bs (by omega) ?_
     intro v' h' Rt X3 Ru
     obtain⟨k1,k2,k3,k4,k5,k6,k7,k8⟩:=key v' h' Rt X3 Ru
     simp -implicitDefEqProofs only[go_sem,↓reduceIte,k1,k2,k3,k4,k5,Ht,ZeI]
     exact⟨⟨_,_,rfl,⟨_,rfl,k6⟩,k7⟩,k8⟩
    ·refine Zv (E:=5) (B:=g1.size) Yt Tryz.underlying34 Wf Vh Vg ohJ (by omega) o4J.bs (by omega) ?_
     intro v' h' Rt X3 Ru
     obtain⟨k1,k2,k3,k4,k5,k6,k7,k8⟩:=key v' h' Rt X3 Ru
     simp -implicitDefEqProofs only[go_sem,↓reduceIte,k1,k2,k3,k4,k5,Ht,ZeI]
     exact⟨⟨_,_,rfl,⟨_,rfl,k6⟩,k7⟩,k8⟩
 ·rw[if_pos e0]at Ty
  have e5:=(PX kl.length ZG top s).resolve_left e0
  simp -implicitDefEqProofs only[go_sem,↓reduceIte,e5,wz,z1]
  exact⟨⟨_,_,by rw[Ty];rfl,⟨_,rfl,Z1.nil _ _ _⟩,Z1.nil _ _ _⟩,qu⟩
def Dm (top:Int) (s:List Bool) (n:Nat):Bool:=decide ((n:Int)<top-8)||(decide ((n:Int)<top)&&s.getD ((n:Int)-(top-8)).toNat false)
theorem Zaj (T:World) (h:Hp) (k:Value) (ZG top:Int) (s:List Bool) (n:Nat) (hs:s.length=8) (t0:0≤top) (t1:top≤1073741824) (hn:n<1073741824) :
  Zd Tryz.prog T 47 #[.agg (ZN k ZG top s).toArray,.int .i64 n] h fun v' h'=>v'=.bool (Dm top s n)∧Ze h.size h h':=by
 have Wg:=Ya k ZG top s hs
 have tk:=Xg Wg
 have n2:nth (ZN k ZG top s) 2=some (.int .i64 top):=rfl
 refine Zd.Zi (args:=[_,_]) Tryz.func47 rfl rfl rfl rfl ?_
 unfold Dm
 by_cases q1:(n:Int)<top-8
 ·have d1:decide ((n:Int)<top-8)=true:=decide_eq_true q1
  simp -implicitDefEqProofs only[go_sem,↓reduceIte,Wg,tk,n2,q1,d1,Bool.true_or]
 ·have d1:decide ((n:Int)<top-8)=false:=decide_eq_false q1
  by_cases q2:(n:Int)<top
  ·have d2:decide ((n:Int)<top)=true:=decide_eq_true q2
   obtain⟨i,hi⟩:∃i:Nat,(n:Int)-(top-8)=i:=⟨((n:Int)-(top-8)).toNat,by omega⟩
   have hi8:i<8:=by omega
   have ZmZ:(i:Int)<8:=by omega
   have n3:nth (ZN k ZG top s) (3+i)=some (.bool (s.getD i false)):=by
    have:=SA s i (by omega)
    rw[Yj]at this ⊢
    rw[←this]
    show (k :: .int .i64 ZG :: .int .i64 top :: s.map Value.bool)[3+i]? = _
    rw[Nat.add_comm];rfl
   simp -implicitDefEqProofs only[go_sem,↓reduceIte,Wg,tk,n2,q1,q2,d1,d2,hi,ZmZ,Int.toNat_natCast,n3,Bool.false_or]
  ·have d2:decide ((n:Int)<top)=false:=decide_eq_false q2
   simp -implicitDefEqProofs only[go_sem,↓reduceIte,Wg,tk,n2,q1,q2,d1,d2,Bool.false_or]
theorem AJ (k:Value) (ZG top:Int) (s t:List Bool) (hs:s.length=8) (ht:t.length=8):Yl (ZN k ZG top s) 3 (t.map Value.bool)=ZN k ZG top t:=by
 have:=UR [k,.int .i64 ZG,.int .i64 top] (s.map Value.bool) (t.map Value.bool)
 rw[ZK (by simp[hs,ht])]at this
 exact this
set_option maxHeartbeats 1000000 in
theorem tU (T:World) (h:Hp) (k:Value) (kl:List Nat) (ZG top:Int) (s:List Bool) (n:Nat) (hs:s.length=8) (sk:Bs h k kl) (hk:kl.length≤140737488355328) (t0:0≤top) (t1:top≤1073741824) (hn:n<1073741824) (hm:¬(n:Int)<top-8) :
  Zd Tryz.prog T 50 #[.agg (ZN k ZG top s).toArray,.int .i64 n] h fun v' h'=>GC h.size h' v' kl ZG (max top (n+1)) (Xq (V0 top s 8++[(n:Int)]) (max top (n+1)))∧Ze h.size h h':=by
 obtain⟨p,c,rfl,_⟩:=sk.open
 have Wg:=Ya (.slice p kl.length c) ZG top s hs
 have tk:=Xg Wg
 refine Zd.XM (args:=[_,_]) Tryz.func50 rfl rfl rfl rfl ?_
 simp -implicitDefEqProofs only[go_sem,↓reduceIte,Wg,tk]
 have Vy:Ze h.size h ((h.push (.cells (ZN (.slice p kl.length c) ZG top s).toArray 84)).push (.cells Ub.toArray 84)):=by (repeat' (first|exact Ze.refl _ _|assumption|refine Ze.add ?_ _|refine Ze.Zk ?_ (by first|omega|(simp;omega)) _|refine Ze.trans (by assumption) ?_))
 refine (lV T _ _ kl ZG top s hs (sk.Z4 Vy) hk).use ?_
 rintro _ g1 ⟨⟨w,rfl,o1⟩,b1⟩
 have x0:g1[h.size]? = some (.cells (ZN (.slice p kl.length c) ZG top s).toArray 84):=b1.get (by simp only[Array.size_push];omega) (by simp only[Array.getElem?_push,Array.size_push,IntWalk.iteOmega,↓reduceIte])
 have x1:g1[h.size+1]? = some (.cells Ub.toArray 84):=b1.get (by simp only[Array.size_push];omega) (by simp only[Array.getElem?_push,Array.size_push,IntWalk.iteOmega,↓reduceIte]<;>rfl)
 have Q3:Ze h.size h g1:=Vy.trans (b1.mono (by simp;omega))
 have z1:=Za x1
 simp only[Array.size_push]at o1
 obtain⟨pw,cw,rfl,_⟩:=o1.open
 clear b1 Vy
 have y2:V.hc g1 ⟨h.size,2,none⟩=some (.int .i64 top):=by rw[Zg x0];rfl
 have Mq:=Ya (.slice pw kl.length cw) ZG top s hs
 have xu:=Xg Mq
 have oD:=Qd (p:=pw) (n:=kl.length) (c:=cw) ZG top s
 have lpD:∀v,Yl [v,.int .i64 0,.int .i64 0,.bool false,.bool false,.bool false,.bool false,.bool false,.bool false,.bool false,.bool false] 0 (ZN (.slice pw kl.length cw) ZG top s)=ZN (.slice pw kl.length cw) ZG top s:=fun v=>ZK Mq
 have e1:(n:Int)+1=((n+1:Nat):Int):=rfl
 obtain⟨TP,hTP⟩:∃TP:Int,TP=max top (n+1):=⟨_,rfl⟩
 have lu:(if ((n+1:Nat):Int)>top then ((n+1:Nat):Int) else top)=TP:=by rw[hTP];split<;>omega
 have sD:(ZN (.slice pw kl.length cw) ZG top s).set 2 (.int .i64 TP)=ZN (.slice pw kl.length cw) ZG TP s:=rfl
 have Zm0:=Ya (.slice pw kl.length cw) ZG TP s hs
 have lE:Yl (ZN (.slice pw kl.length cw) ZG TP s) 3 [.bool false,.bool false,.bool false,.bool false,.bool false,.bool false,.bool false,.bool false]=ZN (.slice pw kl.length cw) ZG TP (Xq (V0 top s 0) TP):=AJ (.slice pw kl.length cw) ZG TP s X1 hs rfl
 have y0r:rd g1 ⟨h.size,3,none⟩ 8=some (s.map Value.bool):=by
  have Na:(s.map Value.bool).length=8:=by rw[List.length_map,hs]
  have:=Z0 x0 (o:=3) (n:=8) (by rw[Wg];omega)
  rw[this]
  have e:(ZN (.slice p kl.length c) ZG top s).drop 3=s.map Value.bool:=rfl
  rw[e,Xg Na]
 rw[←hTP]
 simp -implicitDefEqProofs only[go_sem,↓reduceIte,Mq,xu,oD,lpD,y2,e1,lu,sD,Zm0,lE,y0r]
 obtain⟨bo,hbo⟩:∃b,b=g1.size:=⟨_,rfl⟩
 obtain⟨J,hJ⟩:=Zu (g1.push (.cells (ZN (.slice pw kl.length cw) ZG TP (Xq (V0 top s 0) TP)).toArray 84))
 have J5:J[bo]? = some (.cells (ZN (.slice pw kl.length cw) ZG TP (Xq (V0 top s 0) TP)).toArray 84):=by rw[hJ,hbo];exact Zb
 have J0:J[h.size]? = some (.cells (ZN (.slice p kl.length c) ZG top s).toArray 84):=by rw[hJ,Zq (by omega)];exact x0
 have J1:J[h.size+1]? = some (.cells Ub.toArray 84):=by rw[hJ,Zq (by omega)];exact x1
 have JB:Ze h.size h J:=by rw[hJ];exact Q3.Yg Q3.size _
 have Jo:Z1 (h.size+1+1) 5 J (.slice pw kl.length cw) kl:=by rw[hJ];exact o1.push _
 have Jlt:∀b,ZM (.slice pw kl.length cw)=some b→b<bo:=fun b hb=>by have:=o1.own.lt b hb;omega
 have Jsz:J.size=bo+1:=by rw[hJ,Array.size_push,hbo]
 rw[←hJ,←hbo]
 clear hJ
 refine VS.ZU (fun F g=>F 1=.int .i64 n∧F 2=.pointer (some ⟨h.size,0,none⟩)∧F 4=.pointer (some ⟨h.size+1,0,none⟩)∧F 5=.pointer (some ⟨bo,0,none⟩)∧F 20=.agg (s.map Value.bool).toArray∧∃i:Nat,i≤8∧F 21=.int .i64 i∧g=J.setIfInBounds bo (.cells (ZN (.slice pw kl.length cw) ZG TP (Xq (V0 top s i) TP)).toArray 84))
  (fun F _=>8-(vi (F 21)).toNat) rfl ⟨rfl,rfl,rfl,rfl,rfl,0,by omega,rfl,(Uc J5).symm⟩ ?_
 rintro F g ⟨f1,f2,f4,f5,f20,i,hi,f21,rfl⟩
 have hx:=ZO (o:=.cells (ZN (.slice pw kl.length cw) ZG TP (Xq (V0 top s i) TP)).toArray 84) J5
 have Tb:(J.setIfInBounds bo (.cells (ZN (.slice pw kl.length cw) ZG TP (Xq (V0 top s i) TP)).toArray 84))[h.size]? = some (.cells (ZN (.slice p kl.length c) ZG top s).toArray 84):=by rw[Array.getElem?_setIfInBounds,if_neg (by omega)];exact J0
 have sl8:=WQ (V0 top s i) TP
 have YM:=fB top s i
 obtain⟨SS,hSS⟩:=Zu (Xq (V0 top s i) TP)
 by_cases ZA:i<8
 ·have ZH:(i:Int)<8:=by omega
  rw[←hSS]at hx Tb sl8 ⊢
  obtain⟨G,hG⟩:=Zu (J.setIfInBounds bo (.cells (ZN (.slice pw kl.length cw) ZG TP SS).toArray 84))
  rw[←hG]at hx Tb ⊢
  have n1:=SA s i (by omega)
  have y2:V.hc G ⟨h.size,2,none⟩=some (.int .i64 top):=by rw[Zg Tb];rfl
  have y5:V.hc G ⟨bo,2,none⟩=some (.int .i64 TP):=by rw[Zg hx];rfl
  obtain⟨b,hb⟩:=Zu (s.getD i false)
  rw[←hb]at n1 YM
  cases b with
  | false=>
   rw[if_neg (by decide),List.append_nil]at YM
   simp -implicitDefEqProofs only[go_sem,↓reduceIte,f1,f2,f4,f5,f20,f21,ZH,Int.toNat_natCast,n1,y2,y5]
   refine⟨⟨f1,f2,f4,f5,f20,i+1,ZA,rfl,?_⟩,?_⟩
   ·rw[YM,hG,hSS]
   ·simp only[vi,Zh,↓reduceIte,f21];omega
  | true=>
   rw[if_pos rfl]at YM
   have Ax:=Ns (V0 top s i) TP (top-8+(i:Int)) (by omega)
   rw[←YM,←hSS]at Ax
   have ex:top-8+(i:Int)-TP+8=top+(i:Int)-TP:=by omega
   rw[ex]at Ax
   by_cases hk0:0≤top+(i:Int)-TP
   ·rw[if_pos hk0]at Ax
    obtain⟨j,hj⟩:∃j:Nat,top+(i:Int)-TP=j:=⟨(top+(i:Int)-TP).toNat,by omega⟩
    rw[hj,Int.toNat_natCast]at Ax
    have hj8:(j:Int)<8:=by omega
    have hj0:(0:Int)≤(j:Int):=by omega
    have Zyo:j<8:=by omega
    have hlen:=Ya (.slice pw kl.length cw) ZG TP SS sl8
    have w1:Jn G ⟨bo,3+j,none⟩ (.bool true)=some (G.setIfInBounds bo (.cells (ZN (.slice pw kl.length cw) ZG TP (SS.set j true)).toArray 84)):=by
     rw[Yq hx,if_pos ⟨by rw[hlen];omega,rfl⟩,Ex]
    simp -implicitDefEqProofs only[go_sem,↓reduceIte,f1,f2,f4,f5,f20,f21,ZH,Int.toNat_natCast,n1,y2,y5,hj,hj0,hj8,w1]
    refine⟨⟨f1,f2,f4,f5,f20,i+1,ZA,rfl,?_⟩,?_⟩
    ·rw[Ax,hG,set_set]
    ·simp only[vi,Zh,↓reduceIte,f21];omega
   ·rw[if_neg hk0]at Ax
    simp -implicitDefEqProofs only[go_sem,↓reduceIte,f1,f2,f4,f5,f20,f21,ZH,Int.toNat_natCast,n1,y2,y5,hk0]
    refine⟨⟨f1,f2,f4,f5,f20,i+1,ZA,rfl,?_⟩,?_⟩
    ·rw[Ax,hG]
    ·simp only[vi,Zh,↓reduceIte,f21];omega
 ·have YE:¬(i:Int)<8:=by omega
  obtain rfl:i=8:=by omega
  have c8:((8:Nat):Int)=8:=rfl
  rw[c8]at f21 YE
  have Ax:=Ns (V0 top s 8) TP (n:Int) (by omega)
  rw[if_pos (by omega),←hSS]at Ax
  have Qm:(J.setIfInBounds bo (.cells (ZN (.slice pw kl.length cw) ZG TP (Xq (V0 top s 8) TP)).toArray 84))[h.size+1]? = some (.cells Ub.toArray 84):=by rw[Array.getElem?_setIfInBounds,if_neg (by omega)];exact J1
  have HB:=JB.Zk (b:=bo) (by omega) (.cells (ZN (.slice pw kl.length cw) ZG TP (Xq (V0 top s 8) TP)).toArray 84)
  have HO:Z1 (h.size+1+1) 5 (J.setIfInBounds bo (.cells (ZN (.slice pw kl.length cw) ZG TP (Xq (V0 top s 8) TP)).toArray 84)) (.slice pw kl.length cw) kl:=
   Jo.Mh (x:=some bo) ⟨by simp,fun b hb Yr=>by rw[Array.getElem?_setIfInBounds,if_neg (fun e=>Yr (by rw[e]))]⟩ (fun b hb e=>by have:=Jlt b hb;simp at e;omega)
  rw[←hSS]at hx Qm HB HO sl8 ⊢
  obtain⟨j,hj⟩:∃j:Nat,(n:Int)-(TP-8)=j:=⟨((n:Int)-(TP-8)).toNat,by omega⟩
  have hj2:(n:Int)-TP+8=j:=by omega
  rw[hj2,Int.toNat_natCast]at Ax
  have hj8:(j:Int)<8:=by omega
  have hlen:=Ya (.slice pw kl.length cw) ZG TP SS sl8
  obtain⟨G,hG⟩:=Zu (J.setIfInBounds bo (.cells (ZN (.slice pw kl.length cw) ZG TP SS).toArray 84))
  rw[←hG]at hx Qm HB HO ⊢
  have y5:V.hc G ⟨bo,2,none⟩=some (.int .i64 TP):=by rw[Zg hx];rfl
  have w1:Jn G ⟨bo,3+j,none⟩ (.bool true)=some (G.setIfInBounds bo (.cells (ZN (.slice pw kl.length cw) ZG TP (SS.set j true)).toArray 84)):=by
   rw[Yq hx,if_pos ⟨by rw[hlen];omega,rfl⟩,Ex]
  rw[Ax]
  have ZeL:(SS.set j true).length=8:=by rw[List.length_set];exact sl8
  obtain⟨S2,hS2⟩:=Zu (SS.set j true)
  rw[←hS2]at w1 ZeL ⊢
  have cQ:=Ya (.slice pw kl.length cw) ZG TP S2 ZeL
  have o2:=Qd (p:=pw) (n:=kl.length) (c:=cw) ZG TP S2
  have tk2:=Xg cQ
  have hxb:=ZO (o:=.cells (ZN (.slice pw kl.length cw) ZG TP S2).toArray 84) hx
  have rb:=Zo hxb cQ
  have Zm3:(G.setIfInBounds bo (.cells (ZN (.slice pw kl.length cw) ZG TP S2).toArray 84))[h.size+1]? = some (.cells Ub.toArray 84):=by rw[Array.getElem?_setIfInBounds,if_neg (by omega)];exact Qm
  have w2:=wrZ Zm3 cQ o2
  have k5:=Za Qm
  have HO2:Z1 (h.size+1+1) 5 (G.setIfInBounds bo (.cells (ZN (.slice pw kl.length cw) ZG TP S2).toArray 84)) (.slice pw kl.length cw) kl:=
   HO.Mh (x:=some bo) ⟨by simp,fun b hb Yr=>by rw[Array.getElem?_setIfInBounds,if_neg (fun e=>Yr (by rw[e]))]⟩ (fun b hb e=>by have:=Jlt b hb;simp at e;omega)
  have zX:=(HB.Zk (b:=bo) (by omega) (.cells (ZN (.slice pw kl.length cw) ZG TP S2).toArray 84)).Zk (b:=h.size+1) (by omega) (.cells (ZN (.slice pw kl.length cw) ZG TP S2).toArray 84)
  simp -implicitDefEqProofs only[go_sem,↓reduceIte,f1,f2,f4,f5,f20,f21,YE,y5,hj,hj8,Int.toNat_natCast,w1,rb,w2,cQ,tk2,k5]
  exact⟨⟨_,rfl,(HO2.ZQ (by omega) _).mono (by omega)⟩,zX⟩
theorem mX {a b c d:Nat} (ha:a<256) (hb:b<256) (hc:c<256) (hd:d<256):Z8 .or .i64 (Z8 .or .i64 (Z8 .or .i64 (Yz .i64 (a:Int) 24) (Yz .i64 (b:Int) 16)) (Yz .i64 (c:Int) 8)) (d:Int)=((16777216*a+65536*b+256*c+d:Nat):Int):=by
 have e1:Yz .i64 (a:Int) 24=((a*16777216:Nat):Int):=Vr ha 24 (by omega)
 have e2:Yz .i64 (b:Int) 16=((b*65536:Nat):Int):=Vr hb 16 (by omega)
 have e3:Yz .i64 (c:Int) 8=((c*256:Nat):Int):=Vr hc 8 (by omega)
 have f1:a*16777216 ||| b*65536=a*16777216+b*65536:=JP (k:=24) (by omega) (by omega)
 have f2:(a*16777216+b*65536) ||| c*256=a*16777216+b*65536+c*256:=JP (k:=16) (by omega) (by omega)
 rw[e1,e2,e3,Rs _ _ (by omega) (by omega),f1,Rs _ _ (by omega) (by omega),f2,Rs _ _ (by omega) (by omega),JP (k:=8) (by omega) (by omega)]
 congr 1;omega
def UG (l:List Nat):Nat:=16777216*l.getD 0 0+65536*l.getD 1 0+256*l.getD 2 0+l.getD 3 0
theorem AK {l:List Nat} (w:∀x∈l,x<256) (hl:4≤l.length):Yo (UG l)=l.take 4:=by
 match l,hl with
 | a :: b :: c :: d :: l,_=>
  have h1:=w a (by simp)
  have h2:=w b (by simp)
  have h3:=w c (by simp)
  have h4:=w d (by simp)
  show [_,_,_,_]=[a,b,c,d]
  have e:UG (a :: b :: c :: d :: l)=16777216*a+65536*b+256*c+d:=rfl
  rw[e]
  congr 1
  ·omega
  ·congr 1
   ·omega
   ·congr 1
    ·omega
    ·congr 1
     omega
theorem Zal {a b c d:Nat} (ha:a<256) (hb:b<256) (hc:c<256) (hd:d<256):16777216*a+65536*b+256*c+d<4294967296:=by omega
theorem tV (l:List Nat):UG l=16777216*l.getD 0 0+65536*l.getD 1 0+256*l.getD 2 0+l.getD 3 0:=by unfold UG;rfl
def UH (kl:List Nat) (ZG top:Int) (s:List Bool) (rc:List Nat):Int:=
 if Xf kl.length ZG top s≠0 then 5 else if 2020<rc.length then 1 else if rc.length<20 then 13 else if 1073741824≤UG rc then 2 else
 if Dm top s (UG rc)=true then 7 else PV kl (Xv (Yo (UG rc))) (Yo (UG rc)) (rc.drop 4)
def NN (kl rc:List Nat):List Nat:=Dj kl (Xv (Yo (UG rc))) (rc.drop 4)
def NO (top:Int) (s:List Bool) (n:Nat):List Bool:=Xq (V0 top s 8++[(n:Int)]) (max top (n+1))
def GW (B:Nat) (h':Hp) (v':Value) (kl:List Nat) (ZG top:Int) (s:List Bool) (rc:List Nat):Prop:=∃cw w,v'=.tuple [cw,w,.int .i64 (UH kl ZG top s rc)].toArray ∧
 cO B h' cw (UH kl ZG top s rc) kl ZG (max top (UG rc+1)) (NO top s (UG rc))∧Z1 B 5 h' w (if UH kl ZG top s rc=0 then NN kl rc else [])
theorem mY {top:Int} {s:List Bool} {n:Nat} (h:¬Dm top s n=true):¬(n:Int)<top-8:=by
 intro ZA
 apply h
 unfold Dm
 rw[decide_eq_true ZA];rfl
set_option maxHeartbeats 2000000 in
theorem Dn (T:World) (h:Hp) (k u:Value) (kl rc:List Nat) (ZG top:Int) (s:List Bool) (hs:s.length=8) (sk:Bs h k kl) (sp:Bs h u rc) (ck:WO k) (cu:WO u) :
  Zd Tryz.prog T 32 #[.agg (ZN k ZG top s).toArray,u] h fun v' h'=>GW h.size h' v' kl ZG top s rc∧Ze h.size h h':=by
 have qv:=sp.byte
 obtain⟨p,c,rfl,_⟩:=sk.open
 obtain⟨q,d,rfl,xE⟩:=sp.Us
 have cu:rc.length≤d:=cu
 have Wg:=Ya (.slice p kl.length c) ZG top s hs
 have tk:=Xg Wg
 refine Zd.XM (args:=[_,_]) Tryz.func32 rfl rfl rfl rfl ?_
 simp -implicitDefEqProofs only[go_sem,↓reduceIte,Wg,tk]
 have Vy:Ze h.size h ((h.push (.cells (ZN (.slice p kl.length c) ZG top s).toArray 84)).push (.cells Ub.toArray 84)):=by (repeat' (first|exact Ze.refl _ _|assumption|refine Ze.add ?_ _|refine Ze.Zk ?_ (by first|omega|(simp;omega)) _|refine Ze.trans (by assumption) ?_))
 refine (PC T _ p kl.length c ZG top s hs).use ?_
 rintro _ g1 ⟨rfl,b1⟩
 have x0:g1[h.size]? = some (.cells (ZN (.slice p kl.length c) ZG top s).toArray 84):=b1.get (by simp only[Array.size_push];omega) (by simp only[Array.getElem?_push,Array.size_push,IntWalk.iteOmega,↓reduceIte])
 have x1:g1[h.size+1]? = some (.cells Ub.toArray 84):=b1.get (by simp only[Array.size_push];omega) (by simp only[Array.getElem?_push,Array.size_push,IntWalk.iteOmega,↓reduceIte]<;>rfl)
 have Q3:Ze h.size h g1:=Vy.trans (b1.mono (by simp;omega))
 have z1:=Za x1
 clear b1 Vy
 have Ty:UH kl ZG top s rc=if Xf kl.length ZG top s≠0 then 5 else if 2020<rc.length then 1 else if rc.length<20 then 13 else if 1073741824≤UG rc then 2 else
 if Dm top s (UG rc)=true then 7 else PV kl (Xv (Yo (UG rc))) (Yo (UG rc)) (rc.drop 4):=rfl
 unfold GW cO NN
 have hbe:UG rc=16777216*rc.getD 0 0+65536*rc.getD 1 0+256*rc.getD 2 0+rc.getD 3 0:=tV rc
 have h4:4≤rc.length→Yo (UG rc)=rc.take 4:=fun hl=>AK qv hl
 obtain⟨E,hE⟩:=Zu (UH kl ZG top s rc)
 rw[←hE]at Ty ⊢
 clear hE
 obtain⟨n,hn⟩:=Zu (UG rc)
 rw[←hn]at Ty hbe h4 ⊢
 clear hn
 have wz:∀g:Hp,g[h.size+1]? = some (.cells Ub.toArray 84)→wr g ⟨h.size+1,0,none⟩ [.slice none 0 0,.int .i64 0,.int .i64 0,.bool false,.bool false,.bool false,.bool false,.bool false,.bool false,.bool false,.bool false]=some (g.setIfInBounds (h.size+1) (.cells [.slice none 0 0,.int .i64 0,.int .i64 0,.bool false,.bool false,.bool false,.bool false,.bool false,.bool false,.bool false,.bool false].toArray 84)):=fun g hg=>wrZ hg rfl rfl
 have qu:∀g:Hp,Ze h.size h g→Ze h.size h (g.setIfInBounds (h.size+1) (.cells #[.slice none 0 0,.int .i64 0,.int .i64 0,.bool false,.bool false,.bool false,.bool false,.bool false,.bool false,.bool false,.bool false] 84)):=fun g hg=>hg.Zk (by omega) _
 have wz1:=wz g1 x1
 by_cases e0:Xf kl.length ZG top s=0
 ·obtain⟨hk,s0,s1,t0,t1⟩:=PY e0
  rw[if_neg (by simp[e0])]at Ty
  by_cases hm:2020<rc.length
  ·rw[if_pos hm]at Ty
   have My:2020<(rc.length:Int):=by omega
   simp -implicitDefEqProofs only[go_sem,↓reduceIte,e0,My,wz1,z1]
   exact⟨⟨_,_,by rw[Ty];rfl,⟨_,rfl,Z1.nil _ _ _⟩,Z1.nil _ _ _⟩,qu _ Q3⟩
  ·rw[if_neg hm]at Ty
   have My:¬2020<(rc.length:Int):=by omega
   by_cases tW:rc.length<20
   ·rw[if_pos tW]at Ty
    have Zam:(rc.length:Int)<20:=by omega
    simp -implicitDefEqProofs only[go_sem,↓reduceIte,e0,My,Zam,wz1,z1]
    exact⟨⟨_,_,by rw[Ty];rfl,⟨_,rfl,Z1.nil _ _ _⟩,Z1.nil _ _ _⟩,qu _ Q3⟩
   ·rw[if_neg tW]at Ty
    have Zam:¬(rc.length:Int)<20:=by omega
    obtain⟨bb,oo,rfl,Ut,xE⟩:=xE (by intro e;rw[e]at tW;simp at tW)
    have u0:V.hc g1 ⟨bb,oo+0,none⟩=some (.int .u8 (rc.getD 0 0:Nat)):=by rw[Q3.hc (by exact Ut)];exact xE 0 (by omega)
    have u1:V.hc g1 ⟨bb,oo+1,none⟩=some (.int .u8 (rc.getD 1 0:Nat)):=by rw[Q3.hc (by exact Ut)];exact xE 1 (by omega)
    have u2:V.hc g1 ⟨bb,oo+2,none⟩=some (.int .u8 (rc.getD 2 0:Nat)):=by rw[Q3.hc (by exact Ut)];exact xE 2 (by omega)
    have u3:V.hc g1 ⟨bb,oo+3,none⟩=some (.int .u8 (rc.getD 3 0:Nat)):=by rw[Q3.hc (by exact Ut)];exact xE 3 (by omega)
    rw[Nat.add_zero]at u0
    have w0:=ZF qv 0
    have w1:=ZF qv 1
    have w2:=ZF qv 2
    have w3:=ZF qv 3
    have h4:=h4 (by omega)
    have s4:=SI sp (m:=4) (by omega) 4
    rw[←h4]at s4
    generalize rc.getD 0 0=r0 at *
    generalize rc.getD 1 0=r1 at *
    generalize rc.getD 2 0=r2 at *
    generalize rc.getD 3 0=r3 at *
    have ZeM:Unit→_:=fun _=>Ty
    clear Ty
    have Zl3:n<4294967296:=by rw[hbe];exact Zal w0 w1 w2 w3
    have d4:(4:Int)≤d:=by omega
    have sh:Unit→Z8 .or .i64 (Z8 .or .i64 (Z8 .or .i64 (Yz .i64 (r0:Int) 24) (Yz .i64 (r1:Int) 16)) (Yz .i64 (r2:Int) 8)) (r3:Int)=(n:Int):=fun _=>by rw[mX w0 w1 w2 w3,hbe]
    clear hbe
    simp -implicitDefEqProofs only[go_sem,↓reduceIte,e0,My,Zam,d4]
    refine VS.mono (N:=fun F g=>g1=g∧F 1=.slice (some ⟨bb,oo,none⟩) rc.length d∧F 2=.pointer (some ⟨h.size,0,none⟩)∧F 4=.pointer (some ⟨h.size+1,0,none⟩)∧F 8=.slice (some ⟨bb,oo,none⟩) 4 4∧F 9=.int .i64 n) ?_ ?_ (fun _ _ _ h=>h) (fun _ _ h=>h)
    ·refine VS.q mixed (by kernel_rfl) ?_
     simp -implicitDefEqProofs only[go_sem,↓reduceIte,u0,u1,u2,u3]
     exact congrArg _ (sh ())
    clear sh w0 w1 w2 w3
    have Ty:=ZeM ()
    clear ZeM
    rintro F _ ⟨rfl,f1,f2,f4,f8,f9⟩
    by_cases hb:1073741824≤n
    ·rw[if_pos hb]at Ty
     have X3:(1073741824:Int)≤(n:Int):=by clear Ty;omega
     simp -implicitDefEqProofs only[go_sem,↓reduceIte,f1,f2,f4,f8,f9,X3,wz1,z1]
     exact⟨⟨_,_,by rw[Ty];rfl,⟨_,rfl,Z1.nil _ _ _⟩,Z1.nil _ _ _⟩,qu _ Q3⟩
    ·rw[if_neg hb]at Ty
     have X3:¬(1073741824:Int)≤(n:Int):=by clear Ty;omega
     have rC:rd g1 ⟨h.size,0,none⟩ 11=some (ZN (.slice p kl.length c) ZG top s):=Zo x0 Wg
     simp -implicitDefEqProofs only[go_sem,↓reduceIte,f1,f2,f4,f8,f9,X3,rC]
     refine (Zaj T _ _ ZG top s n hs t0 t1 (by clear Ty;omega)).use ?_
     rintro _ g2 ⟨rfl,b2⟩
     have x02:=b2.get (Nat.lt_of_succ_lt z1) x0
     have x12:=b2.get z1 x1
     have z2:=b2.size
     have TG:=Q3.trans (b2.mono Q3.size)
     have wz2:=wz g2 x12
     have zl2:=Za x12
     by_cases mZ:Dm top s n=true
     ·rw[if_pos mZ]at Ty
      simp -implicitDefEqProofs only[go_sem,↓reduceIte,f1,f2,f4,f8,f9,mZ,wz2,zl2]
      exact⟨⟨_,_,by rw[Ty];rfl,⟨_,rfl,Z1.nil _ _ _⟩,Z1.nil _ _ _⟩,qu _ TG⟩
     ·rw[if_neg mZ]at Ty
      have Zeq:=mY mZ
      have ZeN:Dm top s n=false:=by simpa using mZ
      have y0:V.hc g2 ⟨h.size,0,none⟩=some (.slice p kl.length c):=by rw[Zg x02];rfl
      have zl0:=Za x02
      have l4:(Yo n).length=4:=rfl
      have l12:(Xv (Yo n)).length≤1000:=by simp[Xv,Yo]
      have sbk:=SD sp rfl (k:=4) (by omega) cu (d-4)
      have Zm6:(4:Int)≤rc.length:=by clear Ty;omega
      simp -implicitDefEqProofs only[go_sem,↓reduceIte,f1,f2,f4,f8,f9,ZeN]
      refine VS.w (g2.size) [] (.q 0 (.q 1 (.q 2 (.q 4 (.q 5 (.q 6 (.s 3 (.s 7 (.q 8 (.q 9 (.q 10 (.q 11 (.q 12 .nil))))))))))))) mixed (by kernel_rfl) ?_
      simp -implicitDefEqProofs only[go_sem,↓reduceIte,f1,f2,f4,f8,f9,y0,zl0,Zm6,QP]
      refine (PW T _ _ _ (s4.Z4 TG) (by rw[l4];decide)).use ?_
      rintro vn g3 ⟨on,b3⟩
      have z3:=b3.size
      have b3T:Ze g2.size g2 g3=True:=eq_true b3
      have hB3:=TG.trans (b3.mono TG.size)
      simp -implicitDefEqProofs only[go_sem,↓reduceIte,f1,f2,f4,f8,f9,b3T]
      refine (tT T _ _ _ _ _ kl (Xv (Yo n)) (Yo n) (rc.drop 4) (sk.Z4 hB3) on.bs (s4.Z4 hB3) (sbk.Z4 hB3) ck on.cap (show rc.length-4≤d-4 by omega)).use ?_
      rintro _ g4 ⟨⟨w4,rfl,o4⟩,b4⟩
      have z4:=b4.size
      have CK:Ze g2.size g2 g4:=b3.trans (b4.mono z3)
      have mW:Ze g2.size g2 g4=True:=eq_true CK
      rw[←Ty]at o4 ⊢
      have x14:=CK.get zl2 x12
      have x04:=CK.get zl0 x02
      have cG:=TG.trans (CK.mono TG.size)
      have wz4:=wz g4 x14
      have zl4:=Za x14
      clear Ty
      by_cases hE0:E=0
      ·subst hE0
       rw[if_pos rfl]at o4
       have rC4:rd g4 ⟨h.size,0,none⟩ 11=some (ZN (.slice p kl.length c) ZG top s):=Zo x04 Wg
       simp -implicitDefEqProofs only[go_sem,↓reduceIte,f1,f2,f4,f8,f9,mW,rC4]
       refine (tU T _ _ kl ZG top s n hs (sk.Z4 cG) (by omega) t0 t1 (by omega) Zeq).use ?_
       rintro _ g5 ⟨⟨w5,rfl,o5⟩,b5⟩
       have x15:=b5.get zl4 x14
       have z5:=b5.size
       obtain⟨pw,cw,rfl,_⟩:=o5.open
       have l8:(NO top s n).length=8:=WQ _ _
       have Mq:=Ya (.slice pw kl.length cw) ZG (max top ((n:Int)+1)) (NO top s n) l8
       have oD:=Qd (p:=pw) (n:=kl.length) (c:=cw) ZG (max top ((n:Int)+1)) (NO top s n)
       have xu:=Xg Mq
       have wD:=wrZ x15 Mq oD
       have zl5:=Za x15
       rw[show Xq (V0 top s 8++[(n:Int)]) (max top ((n:Int)+1))=NO top s n from rfl]
       have o4':=o4.Z4 b5 (Nat.le_refl _)
       obtain⟨C5,hC5⟩:=Zu (ZN (.slice pw kl.length cw) ZG (max top ((n:Int)+1)) (NO top s n))
       rw[←hC5]at Mq oD xu wD ⊢
       simp -implicitDefEqProofs only[go_sem,↓reduceIte,f1,f2,f4,f8,f9,mW,wD,Mq,xu,zl5]
       exact⟨⟨_,_,rfl,⟨_,by rw[hC5],(o5.ZQ (by omega) _).mono (by omega)⟩,(o4'.ZQ (by omega) _).mono (by omega)⟩,(cG.trans (b5.mono cG.size)).Zk (by omega) _⟩
      ·rw[if_neg hE0]at o4
       simp -implicitDefEqProofs only[go_sem,↓reduceIte,f1,f2,f4,f8,f9,mW,hE0,wz4,zl4]
       exact⟨⟨_,_,rfl,⟨_,rfl,Z1.nil _ _ _⟩,Z1.nil _ _ _⟩,qu _ cG⟩
 ·rw[if_pos e0]at Ty
  have e5:=(PX kl.length ZG top s).resolve_left e0
  simp -implicitDefEqProofs only[go_sem,↓reduceIte,e5,wz1,z1]
  exact⟨⟨_,_,by rw[Ty];rfl,⟨_,rfl,Z1.nil _ _ _⟩,Z1.nil _ _ _⟩,qu _ Q3⟩
end Go.Proofs.YtkfhncfkagcamaaGreatDoor
