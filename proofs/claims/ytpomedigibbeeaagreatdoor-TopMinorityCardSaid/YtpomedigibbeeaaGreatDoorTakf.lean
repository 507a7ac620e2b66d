/- Bytes padded to sixteen, lengths in eight bytes, and the tag of what is sealed, on both sides; no condition but those in the statements. -/
import Derived.Test.YtpomedigibbeeaaGreatDoorPolg
import Derived.Test.YtpomedigibbeeaaGreatDoorMix
import Derived.Test.YtpomedigibbeeaaGreatDoorBytes
import Derived.Test.YtpomedigibbeeaaGreatDoorVst
import Derived.Test.YtpomedigibbeeaaGreatDoorW15
import Derived.Test.YtpomedigibbeeaaGreatDoorLine
import Derived.Test.YtpomedigibbeeaaGreatDoorW13
namespace Go.Proofs.YtpomedigibbeeaaGreatDoor
open Go Go.V
set_option linter.unusedSimpArgs false
set_option linter.unusedVariables false
set_option maxRecDepth 100000
def eK (l:List Nat):List Nat:=l++List.replicate ((16-l.length%16)%16) 0
def Ev (n:Nat):List Nat:=(List.range 8).map fun i=>n/256 ^ i%256
def Vj (known XU:List Nat):List Nat:=eK known++eK XU++Ev known.length++Ev XU.length
def Qm (key Zp known XU:List Nat):List Nat:=Bu ((Xi key 0 Zp).take 32) (Vj known XU)
theorem Ew (l:List Nat):(eK l).length=l.length+(16-l.length%16)%16:=by simp[eK]
theorem Mp (l:List Nat):(eK l).length≤l.length+15:=by rw[Ew];omega
theorem Jq (n:Nat):(Ev n).length=8:=by simp[Ev]
theorem IS (T:World) (h:Hp) (v:Value) (l:List Nat) (s:Bs h v l) (hl:l.length≤4000) :
  Zc Tryz.prog T 85 #[v] h fun v' h'=>ZZ h.size 5 h' v' (eK l)∧Zf h.size h h':=by
 obtain⟨p,c,rfl,Uo⟩:=s.open
 refine Zc.Zh (args:=[_]) Tryz.func85 rfl rfl rfl rfl ?_
 simp -implicitDefEqProofs only[go_sem,↓reduceIte]
 refine Zv (E:=5) (B:=h.size) Yt Tryz.underlying34 Wh Vb Va (ZZ.nil _ _ _) (Nat.le_refl _) s (by simp;omega) ?_
 intro v1 h1 o1 b1 _
 rw[List.nil_append]at o1
 have e1:((l.length:Nat):Int).tmod 16=((l.length%16:Nat):Int):=rfl
 have e2:(16:Int)-((l.length%16:Nat):Int)=((16-l.length%16:Nat):Int):=by omega
 have e3:((16-l.length%16:Nat):Int).tmod 16=(((16-l.length%16)%16:Nat):Int):=rfl
 simp -implicitDefEqProofs only[go_sem,↓reduceIte,e1,e2,e3]
 refine Ld (E:=5) (B:=h.size) Yt Tryz.underlying3 Wh Vb Va o1 b1.size (by omega) ?_
 intro v2 h2 o2 b2 _
 simp -implicitDefEqProofs only[go_sem,↓reduceIte]
 exact⟨o2,b1.trans b2⟩
theorem IT (T:World) (h:Hp) (n:Nat) (hn:n<9223372036854775808) :
  Zc Tryz.prog T 86 #[.int .i64 n] h fun v' h'=>ZZ h.size 5 h' v' (Ev n)∧Zf h.size h h':=by
 refine Zc.Zh (args:=[_]) Tryz.func86 rfl rfl rfl rfl ?_
 simp -implicitDefEqProofs only[go_sem,↓reduceIte]
 refine VS.ZV (fun F g=>Zf h.size h g∧F 0=.int .i64 n∧∃j:Nat,j≤8∧F 4=.int .i64 (8*j:Nat)∧ZZ h.size 5 g (F 3) ((Ev n).take j))
  (fun F _=>64-(vi (F 4)).toNat) rfl ⟨Zf.refl _ _,rfl,0,by omega,rfl,ZZ.nil _ _ _⟩ ?_
 rintro F g ⟨hg,f0,j,hj,f4,ho⟩
 have SI:=hg.size
 by_cases ZA:j<8
 ·have ZI:((8*j:Nat):Int)<64:=by omega
  have e1:Y7 .i64 (n:Int) ((8*j:Nat):Int)=((n/256 ^ j:Nat):Int):=by
   rw[Sa .i64 n (8*j) (by show 8*j≤64;omega),Nat.shiftRight_eq_div_pow,Nat.pow_mul]
  have e2:((n/256 ^ j:Nat):Int)%256=((n/256 ^ j%256:Nat):Int):=rfl
  have e3:¬((8*j:Nat):Int)<0:=by omega
  have e4:((8*j:Nat):Int)+8=((8*(j+1):Nat):Int):=by omega
  simp -implicitDefEqProofs only[go_sem,↓reduceIte,f0,f4,ZI,e1,e2,e3]
  have hX:n/256 ^ j%256<256:=Nat.mod_lt _ (by decide)
  refine Zv (E:=5) (B:=h.size) Yt Tryz.underlying34 Wh Vb Va (ho.push _) (by simp;omega) (Bs.one hX 1) (by simp[Jq];omega) ?_
  intro v' h' S4 XX _
  simp -implicitDefEqProofs only[go_sem,↓reduceIte,f0,f4,e4]
  refine⟨⟨(hg.Yf SI _).trans XX,f0,j+1,ZA,rfl,?_⟩,?_⟩
  ·rw[Ye _ j (by rw[Jq];exact ZA)]
   have e:(Ev n)[j]'(by rw[Jq];exact ZA)=n/256 ^ j%256:=by simp[Ev]
   rw[e];exact S4
  ·simp only[vi,Zj,↓reduceIte,f4];omega
 ·have YF:¬((8*j:Nat):Int)<64:=by omega
  obtain rfl:j=8:=by omega
  rw[List.take_of_length_le (by rw[Jq];exact Nat.le_refl _)]at ho
  simp -implicitDefEqProofs only[go_sem,↓reduceIte,f0,f4,YF]
  exact⟨ho,hg⟩
theorem SN {key Zp:List Nat} {k:Int} (hk:key.length=32) (hn:Zp.length=12) (h0:0≤k) (h1:k≤1073741824):Xw key k Zp=0:=by
 unfold Xw
 rw[if_neg (by omega),if_neg (by omega)]
theorem Ia (key:List Nat) (k:Nat) (Zp:List Nat):(Xi key k Zp).length=64:=by simp[Xi,KV]
theorem Ex {known XU:List Nat} (hk:known.length≤256) (hs:XU.length≤2000):(Vj known XU).length≤2400:=by
 unfold Vj
 have h1:=Mp known
 have h2:=Mp XU
 simp only[List.length_append,Jq];omega
theorem Ey {key data:List Nat} (hk:key.length=32) (hd:data.length≤4000):WD key data=0:=by
 unfold WD;rw[if_neg (by omega)]
set_option maxHeartbeats 1000000 in
theorem Nl (T:World) (h:Hp) (v u kn sv:Value) (key Zp known XU:List Nat) (sk:Bs h v key) (sn:Bs h u Zp) (sw:Bs h kn known) (ss:Bs h sv XU) (hk:key.length=32) (hn:Zp.length=12) (hw:known.length≤256) (hs:XU.length≤2000) (ck:Td v) (cn:Td u) :
  Zc Tryz.prog T 65 #[v,u,kn,sv] h fun v' h'=>ZZ h.size 5 h' v' (Qm key Zp known XU)∧Zf h.size h h':=by
 obtain⟨pw,cw,rfl,_⟩:=sw.open
 obtain⟨ps,cs,rfl,_⟩:=ss.open
 refine Zc.Zh (args:=[_,_,_,_]) Tryz.func65 rfl rfl rfl rfl ?_
 simp -implicitDefEqProofs only[go_sem,↓reduceIte]
 refine (kq T _ _ _ key Zp 0 sk sn ck cn).use ?_
 rintro _ h1 ⟨⟨w1,rfl,o1⟩,b1⟩
 have e0:=SN (k:=0) hk hn (by decide) (by decide)
 rw[e0,if_pos rfl]at o1
 rw[e0]
 have o1:ZZ h.size 5 h1 w1 (Xi key 0 Zp):=o1
 have z1:=b1.size
 simp -implicitDefEqProofs only[go_sem,↓reduceIte]
 refine (IS T _ _ known (sw.Z7 b1) (by omega)).use ?_
 rintro v2 h2 ⟨o2,b2⟩
 have z2:=b2.size
 have B2:=b1.trans (b2.mono z1)
 simp -implicitDefEqProofs only[go_sem,↓reduceIte]
 refine (IS T _ _ XU (ss.Z7 B2) (by omega)).use ?_
 rintro v3 h3 ⟨o3,b3⟩
 have z3:=b3.size
 have B3:=B2.trans (b3.mono (by omega))
 have l1:=Mp known
 have l2:=Mp XU
 simp -implicitDefEqProofs only[go_sem,↓reduceIte]
 refine Zv (E:=5) (B:=h1.size) Yt Tryz.underlying34 Wh Vb Va (o2.Z7 b3 (Nat.le_refl _)) (by omega) o3.bs (by omega) ?_
 intro v4 h4 o4 b4 _
 have z4:=b4.size
 simp -implicitDefEqProofs only[go_sem,↓reduceIte]
 refine (IT T _ known.length (by omega)).use ?_
 rintro v5 h5 ⟨o5,b5⟩
 have z5:=b5.size
 simp -implicitDefEqProofs only[go_sem,↓reduceIte]
 refine Zv (E:=5) (B:=h1.size) Yt Tryz.underlying34 Wh Vb Va (o4.Z7 b5 (Nat.le_refl _)) (by omega) o5.bs (by simp only[List.length_append,Jq];omega) ?_
 intro v6 h6 o6 b6 _
 have z6:=b6.size
 simp -implicitDefEqProofs only[go_sem,↓reduceIte]
 refine (IT T _ XU.length (by omega)).use ?_
 rintro v7 h7 ⟨o7,b7⟩
 have z7:=b7.size
 simp -implicitDefEqProofs only[go_sem,↓reduceIte]
 refine Zv (E:=5) (B:=h1.size) Yt Tryz.underlying34 Wh Vb Va (o6.Z7 b7 (Nat.le_refl _)) (by omega) o7.bs (by simp only[List.length_append,Jq];omega) ?_
 intro v8 h8 o8 b8 _
 have z8:=b8.size
 have o8:ZZ h1.size 5 h8 v8 (Vj known XU):=o8
 have B8:Zf h1.size h1 h8:=(((((b2.trans (b3.mono z2)).trans b4).trans (b5.mono (by omega))).trans b6).trans (b7.mono (by omega))).trans b8
 have o1':=o1.Z7 B8 (Nat.le_refl _)
 have hlb:=Ia key 0 Zp
 obtain⟨pb,cb,rfl,Hu⟩:=o1'.open
 rw[hlb]at Hu o1' ⊢
 have s32:=Sj o1'.bs (m:=32) (by omega) cb
 have c32:(32:Int)≤cb:=by omega
 have l32:((Xi key 0 Zp).take 32).length=32:=by rw[List.length_take];omega
 have hd:=Ex hw hs
 simp -implicitDefEqProofs only[go_sem,↓reduceIte,c32]
 refine (Eu T _ _ _ ((Xi key 0 Zp).take 32) (Vj known XU) s32 o8.bs (show 32≤cb by omega) o8.cap).use ?_
 rintro _ h9 ⟨⟨w9,rfl,o9⟩,b9⟩
 have e9:=Ey (data:=Vj known XU) l32 (by omega)
 rw[e9,if_pos rfl]at o9
 rw[e9]
 simp -implicitDefEqProofs only[go_sem,↓reduceIte]
 exact⟨o9.mono (by omega),(b1.trans (B8.mono z1)).trans (b9.mono (by omega))⟩
def XV (k n w m Xp:Nat):Int:=if k≠32∨n≠12∨256<w∨Xp<m then 1 else 0
theorem Pq {k n w m Xp:Nat} (e:XV k n w m Xp=0):k=32∧n=12∧w≤256∧m≤Xp:=by
 unfold XV at e
 split at e
 ·cases e
 ·omega
theorem Nm {k n w m Xp:Nat} (e:¬XV k n w m Xp=0):XV k n w m Xp=1:=by
 unfold XV at e ⊢
 split
 ·rfl
 ·rename_i h;rw[if_neg h]at e;exact (e rfl).elim
theorem Ps (T:World) (h:Hp) (p q r s:Option Addr) (k n w m c1 c2 c3 c4 Xp:Nat) :
  Zc Tryz.prog T 64 #[.slice p k c1,.slice q n c2,.slice r w c3,.slice s m c4,.int .i64 Xp] h fun v' h'=>v'=.int .i64 (XV k n w m Xp)∧h'=h:=by
 refine Zc.Zh (args:=[_,_,_,_,_]) Tryz.func64 rfl rfl rfl rfl ?_
 unfold XV
 by_cases q0:k=32
 ·
  by_cases q1:n=12
  ·
   by_cases q2:w≤256
   ·
    by_cases q3:m≤Xp
    ·
     have c0:(k:Int)=32∨¬(k:Int)=32:=by omega
     have c1:(n:Int)=12∨¬(n:Int)=12:=by omega
     have c2:256<(w:Int)∨¬256<(w:Int):=by omega
     have c3:(Xp:Int)<(m:Int)∨¬(Xp:Int)<(m:Int):=by omega
     rcases c0 with c0|c0<;>rcases c1 with c1|c1<;>rcases c2 with c2|c2<;>rcases c3 with c3|c3<;>first
      | (exfalso;omega)
      | (rw[if_neg (by omega)];simp -implicitDefEqProofs only[go_sem,↓reduceIte,c0,c1,c2,c3])
      | (rw[if_pos (by omega)];simp -implicitDefEqProofs only[go_sem,↓reduceIte,c0,c1,c2,c3])
    ·
     have c0:(k:Int)=32∨¬(k:Int)=32:=by omega
     have c1:(n:Int)=12∨¬(n:Int)=12:=by omega
     have c2:256<(w:Int)∨¬256<(w:Int):=by omega
     have c3:(Xp:Int)<(m:Int)∨¬(Xp:Int)<(m:Int):=by omega
     rcases c0 with c0|c0<;>rcases c1 with c1|c1<;>rcases c2 with c2|c2<;>rcases c3 with c3|c3<;>first
      | (exfalso;omega)
      | (rw[if_neg (by omega)];simp -implicitDefEqProofs only[go_sem,↓reduceIte,c0,c1,c2,c3])
      | (rw[if_pos (by omega)];simp -implicitDefEqProofs only[go_sem,↓reduceIte,c0,c1,c2,c3])
   ·
    have c0:(k:Int)=32∨¬(k:Int)=32:=by omega
    have c1:(n:Int)=12∨¬(n:Int)=12:=by omega
    have c2:256<(w:Int)∨¬256<(w:Int):=by omega
    have c3:(Xp:Int)<(m:Int)∨¬(Xp:Int)<(m:Int):=by omega
    rcases c0 with c0|c0<;>rcases c1 with c1|c1<;>rcases c2 with c2|c2<;>rcases c3 with c3|c3<;>first
     | (exfalso;omega)
     | (rw[if_neg (by omega)];simp -implicitDefEqProofs only[go_sem,↓reduceIte,c0,c1,c2,c3])
     | (rw[if_pos (by omega)];simp -implicitDefEqProofs only[go_sem,↓reduceIte,c0,c1,c2,c3])
  ·
   have c0:(k:Int)=32∨¬(k:Int)=32:=by omega
   have c1:(n:Int)=12∨¬(n:Int)=12:=by omega
   have c2:256<(w:Int)∨¬256<(w:Int):=by omega
   have c3:(Xp:Int)<(m:Int)∨¬(Xp:Int)<(m:Int):=by omega
   rcases c0 with c0|c0<;>rcases c1 with c1|c1<;>rcases c2 with c2|c2<;>rcases c3 with c3|c3<;>first
    | (exfalso;omega)
    | (rw[if_neg (by omega)];simp -implicitDefEqProofs only[go_sem,↓reduceIte,c0,c1,c2,c3])
    | (rw[if_pos (by omega)];simp -implicitDefEqProofs only[go_sem,↓reduceIte,c0,c1,c2,c3])
 ·
  have c0:(k:Int)=32∨¬(k:Int)=32:=by omega
  have c1:(n:Int)=12∨¬(n:Int)=12:=by omega
  have c2:256<(w:Int)∨¬256<(w:Int):=by omega
  have c3:(Xp:Int)<(m:Int)∨¬(Xp:Int)<(m:Int):=by omega
  rcases c0 with c0|c0<;>rcases c1 with c1|c1<;>rcases c2 with c2|c2<;>rcases c3 with c3|c3<;>first
   | (exfalso;omega)
   | (rw[if_neg (by omega)];simp -implicitDefEqProofs only[go_sem,↓reduceIte,c0,c1,c2,c3])
   | (rw[if_pos (by omega)];simp -implicitDefEqProofs only[go_sem,↓reduceIte,c0,c1,c2,c3])
def IU (key Zp known plain:List Nat):List Nat:=Pd key 1 Zp plain++Qm key Zp known (Pd key 1 Zp plain)
def aK (B:Nat) (h':Hp) (v':Value) (key Zp known plain:List Nat):Prop:=∃w,v'=.tuple [w,.int .i64 (XV key.length Zp.length known.length plain.length 2000)].toArray∧ZZ B 5 h' w (if XV key.length Zp.length known.length plain.length 2000=0 then IU key Zp known plain else [])
theorem Nn {key Zp:List Nat} {k:Int} {n:Nat} (hk:key.length=32) (hn:Zp.length=12) (h0:0≤k) (h1:k≤1073741824) (hm:n≤2000):Wy key k Zp n=0:=by
 unfold Wy
 rw[SN hk hn h0 h1,if_neg (by simp),if_neg (by omega)]
theorem Mq (key data:List Nat):(Bu key data).length≤16:=by rw[Ek];exact Nat.le_refl _
theorem qN (T:World) (h:Hp) (v u kn sv:Value) (key Zp known plain:List Nat) (sk:Bs h v key) (sn:Bs h u Zp) (sw:Bs h kn known) (ss:Bs h sv plain) (ck:Td v) (cn:Td u) :
  Zc Tryz.prog T 92 #[v,u,kn,sv] h fun v' h'=>aK h.size h' v' key Zp known plain∧Zf h.size h h':=by
 obtain⟨p,c,rfl,_⟩:=sk.open
 obtain⟨q,d,rfl,_⟩:=sn.open
 obtain⟨pw,cw,rfl,_⟩:=sw.open
 obtain⟨ps,cs,rfl,_⟩:=ss.open
 refine Zc.Zh (args:=[_,_,_,_]) Tryz.func92 rfl rfl rfl rfl ?_
 unfold aK
 simp -implicitDefEqProofs only[go_sem,↓reduceIte]
 refine (Ps T _ _ _ _ _ _ _ _ _ _ _ _ _ 2000).pure ?_
 by_cases e:XV key.length Zp.length known.length plain.length 2000=0
 ·obtain⟨hk,hn,hw,hs⟩:=Pq e
  rw[e,if_pos rfl]
  simp -implicitDefEqProofs only[go_sem,↓reduceIte,e]
  refine (kA T _ _ _ _ key Zp plain 1 sk sn ss ck cn).use ?_
  rintro _ h1 ⟨⟨w1,rfl,o1⟩,b1⟩
  have e1:=Nn (k:=1) hk hn (by decide) (by decide) hs
  rw[e1,if_pos rfl]at o1
  rw[e1]
  have o1:ZZ h.size 5 h1 w1 (Pd key 1 Zp plain):=o1
  have z1:=b1.size
  have l1:=Wm key 1 Zp plain
  simp -implicitDefEqProofs only[go_sem,↓reduceIte]
  refine (Nl T _ _ _ _ _ key Zp known (Pd key 1 Zp plain) (sk.Z7 b1) (sn.Z7 b1) (sw.Z7 b1) o1.bs hk hn hw (by omega) ck cn).use ?_
  rintro v2 h2 ⟨o2,b2⟩
  have l2:(Qm key Zp known (Pd key 1 Zp plain)).length≤16:=Mq _ _
  have z2:=b2.size
  simp -implicitDefEqProofs only[go_sem,↓reduceIte]
  refine Zv (E:=5) (B:=h.size) Yt Tryz.underlying34 Wh Vb Va (o1.Z7 b2 (Nat.le_refl _)) (by omega) o2.bs (by omega) ?_
  intro v3 h3 o3 b3 _
  simp -implicitDefEqProofs only[go_sem,↓reduceIte]
  exact⟨⟨_,rfl,o3⟩,(b1.trans (b2.mono z1)).trans b3⟩
 ·have e1:=Nm e
  rw[if_neg e]
  simp -implicitDefEqProofs only[go_sem,↓reduceIte,e1]
  exact⟨_,rfl,ZZ.nil _ _ _⟩
theorem IV (a:Option Addr) (c:Nat):C8 a 1 c 0=a:=by
 unfold C8
 split
 ·rfl
 ·cases a with
  | none=>rfl
  | some a=>simp[Addr.add]
def Pv (key Zp known data:List Nat):Int:=if XV key.length Zp.length known.length data.length 2016≠0 then 1 else if data.length<16 then 13 else if Qm key Zp known (data.take (data.length-16))≠data.drop (data.length-16) then 6 else 0
def kU (key Zp data:List Nat):List Nat:=Pd key 1 Zp (data.take (data.length-16))
def aL (B:Nat) (h':Hp) (v':Value) (key Zp known data:List Nat):Prop:=∃w,v'=.tuple [w,.int .i64 (Pv key Zp known data)].toArray∧ZZ B 5 h' w (if Pv key Zp known data=0 then kU key Zp data else [])
theorem qO (T:World) (h:Hp) (v u kn sv:Value) (key Zp known data:List Nat) (sk:Bs h v key) (sn:Bs h u Zp) (sw:Bs h kn known) (ss:Bs h sv data) (ck:Td v) (cn:Td u) (cs:Td sv) :
  Zc Tryz.prog T 39 #[v,u,kn,sv] h fun v' h'=>aL h.size h' v' key Zp known data∧Zf h.size h h':=by
 obtain⟨p,c,rfl,_⟩:=sk.open
 obtain⟨q,d,rfl,_⟩:=sn.open
 obtain⟨pw,cw,rfl,_⟩:=sw.open
 obtain⟨ps,cd,rfl,_⟩:=ss.open
 have cs:data.length≤cd:=cs
 refine Zc.Zh (args:=[_,_,_,_]) Tryz.func39 rfl rfl rfl rfl ?_
 unfold aL
 simp -implicitDefEqProofs only[go_sem,↓reduceIte]
 refine (Ps T _ _ _ _ _ _ _ _ _ _ _ _ _ 2016).pure ?_
 have kV:Pv key Zp known data=if XV key.length Zp.length known.length data.length 2016≠0 then 1 else if data.length<16 then 13 else if Qm key Zp known (data.take (data.length-16))≠data.drop (data.length-16) then 6 else 0:=rfl
 by_cases e:XV key.length Zp.length known.length data.length 2016=0
 ·obtain⟨hk,hn,hw,hs⟩:=Pq e
  rw[if_neg (by simp[e])]at kV
  by_cases yk:data.length<16
  ·rw[if_pos yk]at kV
   rw[kV]
   have n0:(data.length:Int)-16<0:=by omega
   simp -implicitDefEqProofs only[go_sem,↓reduceIte,e,n0]
   exact⟨_,rfl,ZZ.nil _ _ _⟩
  ·rw[if_neg yk]at kV
   have n0:¬((data.length-16:Nat):Int)<0:=by omega
   have n1:(data.length:Int)-16=((data.length-16:Nat):Int):=by omega
   have sfr:=Sj ss (m:=data.length-16) (by omega) cd
   have sbk:=Sf ss rfl (k:=data.length-16) (by omega) cs (cd-(data.length-16))
   have lfr:(data.take (data.length-16)).length=data.length-16:=by rw[List.length_take];omega
   have Zdm:((data.length-16:Nat):Int)≤cd:=by omega
   have Zlh:((data.length-16:Nat):Int)≤data.length:=by omega
   simp -implicitDefEqProofs only[go_sem,↓reduceIte,e,n1,n0]
   refine VS.w (h.size) [] (.q 0 (.q 1 (.q 2 (.q 3 (.q 4 (.q 5 (.q 7 (.q 8 (.q 9 (.s 6 (.s 10 (.q 11 .nil)))))))))))) mixed (by kernel_rfl) ?_
   simp -implicitDefEqProofs only[go_sem,↓reduceIte,Zdm,Zlh,Int.toNat_natCast,QF,IV]
   refine (Nl T _ _ _ _ _ key Zp known (data.take (data.length-16)) sk sn sw sfr hk hn hw (by omega) ck cn).use ?_
   rintro v1 h1 ⟨o1,b1⟩
   have l1:(Qm key Zp known (data.take (data.length-16))).length≤16:=Mq _ _
   simp -implicitDefEqProofs only[go_sem,↓reduceIte,b1]
   refine (H5 T _ _ _ _ _ o1.bs (sbk.Z7 b1) (by omega)).pure ?_
   obtain⟨S,hS⟩:=Zy (Qm key Zp known (data.take (data.length-16)))
   rw[←hS]at kV ⊢
   by_cases ht:S=data.drop (data.length-16)
   ·rw[if_neg (by simp[ht])]at kV
    rw[kV,if_pos rfl]
    have ht':decide (S=data.drop (data.length-16))=true:=decide_eq_true ht
    simp -implicitDefEqProofs only[go_sem,↓reduceIte,b1,ht',Zdm,QF,IV]
    refine (kA T _ _ _ _ key Zp (data.take (data.length-16)) 1 (sk.Z7 b1) (sn.Z7 b1) (sfr.Z7 b1) ck cn).use ?_
    rintro _ h2 ⟨⟨w2,rfl,o2⟩,b2⟩
    have e2:=Nn (k:=1) hk hn (by decide) (by decide) (show (data.take (data.length-16)).length≤2000 by omega)
    rw[e2,if_pos rfl]at o2
    rw[e2]
    have o2:ZZ h1.size 5 h2 w2 (kU key Zp data):=o2
    simp -implicitDefEqProofs only[go_sem,↓reduceIte]
    exact⟨⟨_,rfl,o2.mono b1.size⟩,b1.trans (b2.mono b1.size)⟩
   ·rw[if_pos ht]at kV
    rw[kV]
    have ht':decide (S=data.drop (data.length-16))=false:=decide_eq_false ht
    simp -implicitDefEqProofs only[go_sem,↓reduceIte,b1,ht']
    exact⟨_,rfl,ZZ.nil _ _ _⟩
 ·have e1:=Nm e
  rw[if_pos e]at kV
  rw[kV]
  simp -implicitDefEqProofs only[go_sem,↓reduceIte,e1]
  exact⟨_,rfl,ZZ.nil _ _ _⟩
def YK (n:Nat):List Nat:=[n/16777216%256,n/65536%256,n/256%256,n%256]
theorem BI (n:Nat):∀x∈YK n,x<256:=by
 intro x hx
 simp only[YK,List.mem_cons,List.not_mem_nil,or_false]at hx
 omega
theorem LF (n k:Nat) (hk:k≤64):Y7 .i64 (n:Int) (k:Int)=((n/2 ^ k:Nat):Int):=by
 rw[Sa .i64 n k hk,Nat.shiftRight_eq_div_pow]
theorem Ez (T:World) (h:Hp) (n:Nat) (hn:n≤1073741824) :
  Zc Tryz.prog T 91 #[.int .i64 n] h fun v' h'=>ZZ h.size 5 h' v' (YK n)∧Zf h.size h h':=by
 refine Zc.Zh (args:=[_]) Tryz.func91 rfl rfl rfl rfl ?_
 have e1:Y7 .i64 (n:Int) 24%256=((n/16777216%256:Nat):Int):=by rw[show (24:Int)=((24:Nat):Int) from rfl,LF n 24 (by omega)];omega
 have e2:Y7 .i64 (n:Int) 16%256=((n/65536%256:Nat):Int):=by rw[show (16:Int)=((16:Nat):Int) from rfl,LF n 16 (by omega)];omega
 have e3:Y7 .i64 (n:Int) 8%256=((n/256%256:Nat):Int):=by rw[show (8:Int)=((8:Nat):Int) from rfl,LF n 8 (by omega)];omega
 have e4:(n:Int)%256=((n%256:Nat):Int):=by omega
 simp -implicitDefEqProofs only[go_sem,↓reduceIte,e1,e2,e3,e4]
 exact ZZ.made (l:=YK n) (BI n) (Nat.le_refl _)
def XW (l:List Nat):List Nat:=List.replicate 8 0++l
theorem ym:(XI 12 [Value.int .u8 0])=(List.replicate 12 0).map bv:=rfl
theorem Pw (T:World) (h:Hp) (v:Value) (l:List Nat) (s:Bs h v l) (hl:l.length≤1000) :
  Zc Tryz.prog T 40 #[v] h fun v' h'=>ZZ h.size 5 h' v' (XW l)∧Zf h.size h h':=by
 refine Zc.Zh (args:=[_]) Tryz.func40 rfl rfl rfl rfl ?_
 simp -implicitDefEqProofs only[go_sem,↓reduceIte,ym]
 have o1:ZZ h.size 5 (h.push (.cells ((List.replicate 12 0).map bv).toArray 5)) (.slice (some ⟨h.size,0,none⟩) 8 12) (List.replicate 8 0):=by
  refine⟨.inr ⟨h.size,12,(List.replicate 4 0).map bv,Nat.le_refl _,rfl,?_,by simp,by simp,by simp⟩,fun x hx=>by rw[List.eq_of_mem_replicate hx];decide⟩
  rw[Zb,←List.map_append];rfl
 refine Zv (E:=5) (B:=h.size) Yt Tryz.underlying34 Wh Vb Va o1 (by simp) (s.Z7 (Zf.push (Nat.le_refl _) _)) (by simp;omega) ?_
 intro v' h' S4 XX _
 simp -implicitDefEqProofs only[go_sem,↓reduceIte]
 exact⟨S4,(Zf.push (Nat.le_refl _) _).trans XX⟩
def Wp (n:Nat) (ZG top:Int) (s:List Bool) (m:Nat):Int:=if Xa n ZG top s≠0 then 5 else if 2000<m then 1 else if ZG=1073741824 then 8 else 0
def Jr:List Bool:=[false,false,false,false,false,false,false,false]
def BJ (kl:List Nat) (n:Nat) (plain:List Nat):List Nat:=YK n++IU kl (XW (YK n)) (YK n) plain
def aM (B:Nat) (h':Hp) (cw:Value) (e:Int) (kl:List Nat) (ZG top:Int) (s:List Bool):Prop:=H8 B h' cw (if e=0 then kl else []) (if e=0 then ZG else 0) (if e=0 then top else 0) (if e=0 then s else Jr)
def Gt (B:Nat) (h':Hp) (v':Value) (kl:List Nat) (ZG top:Int) (s:List Bool) (plain:List Nat):Prop:=∃cw w,v'=.tuple [cw,w,.int .i64 (Wp kl.length ZG top s plain.length)].toArray ∧
 aM B h' cw (Wp kl.length ZG top s plain.length) kl (ZG+1) top s∧ZZ B 5 h' w (if Wp kl.length ZG top s plain.length=0 then BJ kl ZG.toNat plain else [])
theorem Px (n:Nat) (ZG top:Int) (s:List Bool):Xa n ZG top s=0∨Xa n ZG top s=5:=by
 unfold Xa
 repeat' split
 all_goals simp
theorem Py {n:Nat} {ZG top:Int} {s:List Bool} (e:Xa n ZG top s=0):n=32∧0≤ZG∧ZG≤1073741824∧0≤top∧top≤1073741824:=by
 unfold Xa at e
 split at e
 ·cases e
 ·omega
theorem wrZ {G:Hp} {b:Nat} (hx:G[b]? = some (.cells QX.toArray 75)) {w:List Value} (h11:w.length=11) (h1:w.all Z6=true):wr G ⟨b,0,none⟩ w=some (G.setIfInBounds b (.cells w.toArray 75)):=by
 rw[ZP hx 0 w,ZM (by rw[h11];rfl),if_pos ⟨by rw[h11];exact Nat.le_refl _,h1⟩]
set_option maxHeartbeats 1000000 in
theorem EA (T:World) (h:Hp) (k u:Value) (kl plain:List Nat) (ZG top:Int) (s:List Bool) (hs:s.length=8) (sk:Bs h k kl) (sp:Bs h u plain) (ck:Td k) :
  Zc Tryz.prog T 73 #[.agg (ZN k ZG top s).toArray,u] h fun v' h'=>Gt h.size h' v' kl ZG top s plain∧Zf h.size h h':=by
 obtain⟨p,c,rfl,_⟩:=sk.open
 obtain⟨q,d,rfl,_⟩:=sp.open
 have U1:=Z8 (.slice p kl.length c) ZG top s hs
 have tk:=Xe U1
 refine Zc.XJ (args:=[_,_]) Tryz.func73 rfl rfl rfl rfl ?_
 simp -implicitDefEqProofs only[go_sem,↓reduceIte,U1,tk]
 have Vg:Zf h.size h ((h.push (.cells (ZN (.slice p kl.length c) ZG top s).toArray 75)).push (.cells QX.toArray 75)):=by (repeat' (first|exact Zf.refl _ _|assumption|refine Zf.add ?_ _|refine Zf.Zk ?_ (by first|omega|(simp;omega)) _|refine Zf.trans (by assumption) ?_))
 refine (RY T _ p kl.length c ZG top s hs).use ?_
 rintro _ g1 ⟨rfl,b1⟩
 have x0:g1[h.size]? = some (.cells (ZN (.slice p kl.length c) ZG top s).toArray 75):=b1.get (by simp only[Array.size_push];omega) (by simp only[Array.getElem?_push,Array.size_push,IntWalk.iteOmega,↓reduceIte])
 have x1:g1[h.size+1]? = some (.cells QX.toArray 75):=b1.get (by simp only[Array.size_push];omega) (by simp only[Array.getElem?_push,Array.size_push,IntWalk.iteOmega,↓reduceIte];rfl)
 have QP:Zf h.size h g1:=Vg.trans (b1.mono (by simp;omega))
 have z1:=Za x1
 clear b1 Vg
 have V7:Wp kl.length ZG top s plain.length=if Xa kl.length ZG top s≠0 then 5 else if 2000<plain.length then 1 else if ZG=1073741824 then 8 else 0:=rfl
 unfold Gt aM
 obtain⟨E,hE⟩:=Zy (Wp kl.length ZG top s plain.length)
 rw[←hE]at V7 ⊢
 have wz:=wrZ x1 (w:=[.slice none 0 0,.int .i64 0,.int .i64 0,.bool false,.bool false,.bool false,.bool false,.bool false,.bool false,.bool false,.bool false]) rfl rfl
 have ov:Zf h.size h (g1.setIfInBounds (h.size+1) (.cells #[.slice none 0 0,.int .i64 0,.int .i64 0,.bool false,.bool false,.bool false,.bool false,.bool false,.bool false,.bool false,.bool false] 75)):=QP.Zk (by omega) _
 by_cases e0:Xa kl.length ZG top s=0
 ·obtain⟨hk,s0,s1,t0,t1⟩:=Py e0
  rw[if_neg (by simp[e0])]at V7
  by_cases hm:2000<plain.length
  ·rw[if_pos hm]at V7
   have Ma:2000<(plain.length:Int):=by omega
   simp -implicitDefEqProofs only[go_sem,↓reduceIte,e0,Ma,wz,z1]
   exact⟨⟨_,_,by rw[V7];rfl,⟨_,rfl,ZZ.nil _ _ _⟩,ZZ.nil _ _ _⟩,ov⟩
  ·rw[if_neg hm]at V7
   have Ma:¬2000<(plain.length:Int):=by omega
   have y1:V.hc g1 ⟨h.size,1,none⟩=some (.int .i64 ZG):=by rw[Zg x0];rfl
   have y0:V.hc g1 ⟨h.size,0,none⟩=some (.slice p kl.length c):=by rw[Zg x0];rfl
   by_cases hf:ZG=1073741824
   ·rw[if_pos hf]at V7
    have wo:(ZG=1073741824)=True:=eq_true hf
    simp -implicitDefEqProofs only[go_sem,↓reduceIte,e0,Ma,y1,wo,wz,z1]
    exact⟨⟨_,_,by rw[V7];rfl,⟨_,rfl,ZZ.nil _ _ _⟩,ZZ.nil _ _ _⟩,ov⟩
   ·rw[if_neg hf]at V7
    rw[V7]
    obtain⟨n,rfl⟩:∃n:Nat,ZG=n:=⟨ZG.toNat,by omega⟩
    rw[Int.toNat_natCast]
    simp -implicitDefEqProofs only[go_sem,↓reduceIte,e0,Ma,y1,hf]
    refine (Ez T _ n (by omega)).use ?_
    rintro vh g2 ⟨oh,b2⟩
    have z2:=b2.size
    have xO:=b2.get (by omega) x0
    have uK:=b2.get (by omega) x1
    have y0':V.hc g2 ⟨h.size,0,none⟩=some (.slice p kl.length c):=by rw[Zg xO];rfl
    have Tn:=QP.trans (b2.mono QP.size)
    have Ol:h.size<g2.size:=by omega
    simp -implicitDefEqProofs only[go_sem,↓reduceIte]
    refine VS.w (g2.size) [] (.q 0 (.q 1 (.q 2 (.q 4 (.q 5 (.s 3 (.s 6 (.q 7 (.q 8 (.q 9 (.q 10 (.q 11 .nil)))))))))))) mixed (by kernel_rfl) ?_
    simp -implicitDefEqProofs only[go_sem,↓reduceIte,y0',Ol]
    refine (Pw T _ _ _ oh.bs (by simp[YK])).use ?_
    rintro vn g3 ⟨on,b3⟩
    have z3:=b3.size
    have b3T:Zf g2.size g2 g3=True:=eq_true b3
    simp -implicitDefEqProofs only[go_sem,↓reduceIte,b3T]
    refine (qN T _ _ _ _ _ kl (XW (YK n)) (YK n) plain ((sk.Z7 Tn).Z7 b3) on.bs (oh.bs.Z7 b3) ((sp.Z7 Tn).Z7 b3) ck on.cap).use ?_
    rintro _ g4 ⟨⟨w4,rfl,o4⟩,b4⟩
    have z4:=b4.size
    have eS:XV kl.length (XW (YK n)).length (YK n).length plain.length 2000=0:=by
     unfold XV XW YK;rw[if_neg];simp;omega
    rw[eS,if_pos rfl]at o4
    rw[eS]
    have DP:Zf g2.size g2 g4:=b3.trans (b4.mono z3)
    have kW:Zf g2.size g2 g4=True:=eq_true DP
    have Zlj:=DP.get (by omega) xO
    have Zlk:=DP.get (by omega) uK
    have aE:=Tn.trans (DP.mono Tn.size)
    have rC:rd g4 ⟨h.size,0,none⟩ 11=some (ZN (.slice p kl.length c) n top s):=Zo Zlj U1
    simp -implicitDefEqProofs only[go_sem,↓reduceIte,kW,rC]
    refine (j1 T _ _ kl n top s hs (sk.Z7 aE) (by omega)).use ?_
    rintro _ g5 ⟨⟨w5,rfl,o5⟩,b5⟩
    have z5:=b5.size
    obtain⟨pw,cw,rfl,_⟩:=o5.open
    have Zdo:=b5.get (by omega) Zlk
    have NU:=Z8 (.slice pw kl.length cw) n top s hs
    have uN:=Xe NU
    have oD:=JZ (p:=pw) (n:=kl.length) (c:=cw) n top s
    have lpD:∀v,Ym [v,.int .i64 0,.int .i64 0,.bool false,.bool false,.bool false,.bool false,.bool false,.bool false,.bool false,.bool false] 0 (ZN (.slice pw kl.length cw) n top s)=ZN (.slice pw kl.length cw) n top s:=fun v=>ZM NU
    have nD:nth (ZN (.slice pw kl.length cw) n top s) 1=some (.int .i64 n):=rfl
    have e1:(n:Int)+1=((n+1:Nat):Int):=rfl
    have sD:(ZN (.slice pw kl.length cw) n top s).set 1 (.int .i64 ((n+1:Nat):Int))=ZN (.slice pw kl.length cw) ((n+1:Nat):Int) top s:=rfl
    have IW:=Z8 (.slice pw kl.length cw) ((n+1:Nat):Int) top s hs
    have Zdp:=Xe IW
    have oD':=JZ (p:=pw) (n:=kl.length) (c:=cw) ((n+1:Nat):Int) top s
    simp -implicitDefEqProofs only[go_sem,↓reduceIte,NU,uN,oD,lpD,nD,e1,sD]
    have rJ:rd (g5.push (.cells (ZN (.slice pw kl.length cw) ((n+1:Nat):Int) top s).toArray 75)) ⟨g5.size,0,none⟩ 11=some (ZN (.slice pw kl.length cw) ((n+1:Nat):Int) top s):=Zo Zb IW
    have xJ:(g5.push (.cells (ZN (.slice pw kl.length cw) ((n+1:Nat):Int) top s).toArray 75))[g5.size]? = some (.cells (ZN (.slice pw kl.length cw) ((n+1:Nat):Int) top s).toArray 75):=Zb
    have xZ:(g5.push (.cells (ZN (.slice pw kl.length cw) ((n+1:Nat):Int) top s).toArray 75))[h.size+1]? = some (.cells QX.toArray 75):=by rw[Zq (by omega)];exact Zdo
    have hB5:=aE.trans (b5.mono aE.size)
    have hBJ:Zf h.size h (g5.push (.cells (ZN (.slice pw kl.length cw) ((n+1:Nat):Int) top s).toArray 75)):=hB5.Yf hB5.size _
    have ohJ:=(oh.Z7 (DP.trans (b5.mono (by omega))) (Nat.le_refl _)).push (.cells (ZN (.slice pw kl.length cw) ((n+1:Nat):Int) top s).toArray 75)
    have owJ:=o5.push (.cells (ZN (.slice pw kl.length cw) ((n+1:Nat):Int) top s).toArray 75)
    have o4J:=(o4.Z7 b5 (Nat.le_refl _)).push (.cells (ZN (.slice pw kl.length cw) ((n+1:Nat):Int) top s).toArray 75)
    have zJ:(g5.push (.cells (ZN (.slice pw kl.length cw) ((n+1:Nat):Int) top s).toArray 75)).size=g5.size+1:=by simp
    have ZA:=oh.own.lt
    have jJ:=oh.own.ZD
    have Zdq:=o5.own.ZD
    have Zwi:=o5.own.lt
    have lS:(IU kl (XW (YK n)) (YK n) plain).length≤2016:=by
     have l1:=Wm kl 1 (XW (YK n)) plain
     have l2:(Qm kl (XW (YK n)) (YK n) (Pd kl 1 (XW (YK n)) plain)).length≤16:=Mq _ _
     unfold IU;rw[List.length_append];omega
    have lh:(YK n).length=4:=rfl
    obtain⟨J,hJ⟩:=Zy (g5.push (.cells (ZN (.slice pw kl.length cw) ((n+1:Nat):Int) top s).toArray 75))
    rw[←hJ]at rJ xJ xZ hBJ ohJ owJ o4J zJ ⊢
    clear hJ
    have key:∀v' h',ZZ g1.size 5 h' v' (YK n++IU kl (XW (YK n)) (YK n) plain)→Zf g1.size J h'→Vy (ZL vh) J h' →
      rd h' ⟨g5.size,0,none⟩ 11=some (ZN (.slice pw kl.length cw) ((n+1:Nat):Int) top s)∧wr h' ⟨h.size+1,0,none⟩ (ZN (.slice pw kl.length cw) ((n+1:Nat):Int) top s)=some (h'.setIfInBounds (h.size+1) (.cells (ZN (.slice pw kl.length cw) ((n+1:Nat):Int) top s).toArray 75)) ∧
      (Zf (h.size+1) J h'=True)∧(Zf (h.size+1) J (h'.setIfInBounds (h.size+1) (.cells (ZN (.slice pw kl.length cw) ((n+1:Nat):Int) top s).toArray 75))=True)∧h.size+1<h'.size ∧
      ZZ h.size 5 (h'.setIfInBounds (h.size+1) (.cells (ZN (.slice pw kl.length cw) ((n+1:Nat):Int) top s).toArray 75)) (.slice pw kl.length cw) kl ∧
      ZZ h.size 5 (h'.setIfInBounds (h.size+1) (.cells (ZN (.slice pw kl.length cw) ((n+1:Nat):Int) top s).toArray 75)) v' (BJ kl n plain) ∧
      Zf h.size h (h'.setIfInBounds (h.size+1) (.cells (ZN (.slice pw kl.length cw) ((n+1:Nat):Int) top s).toArray 75)):=by
     intro v' h' S4 XX S5
     have xZ':=XX.get (k:=h.size+1) (by omega) xZ
     have xJ':h'[g5.size]? = some (.cells (ZN (.slice pw kl.length cw) ((n+1:Nat):Int) top s).toArray 75):=by
      rw[S5.block g5.size (by omega) (fun e=>by have:=ZA _ e;omega)];exact xJ
     have ow':=owJ.MT S5 (fun b hb e=>by have:=Zdq b hb;have:=ZA _ e;omega)
     have HL:Zf (h.size+1) J h':=XX.mono (by omega)
     exact⟨Zo xJ' IW,wrZ xZ' IW oD',eq_true HL,eq_true (HL.Zk (Nat.le_refl _) _),Za xZ',(ow'.ZR (by omega) _).mono (by omega),(S4.ZR (by omega) _).mono (by omega),(hBJ.trans (XX.mono (by omega))).Zk (by omega) _⟩
    refine VS.w (h.size+1) [] (.q 1 (.q 2 (.or 0 (.s 3 (.s 4 (.q 5 (.q 6 .nil)))) (.s 3 (.s 0 (.s 4 (.q 5 (.q 6 .nil)))))))) mixed (by kernel_rfl) ?_
    simp -implicitDefEqProofs only[go_sem,↓reduceIte,rJ]
    refine⟨?_,?_⟩
    ·refine Zv (E:=5) (B:=g1.size) Yt Tryz.underlying34 Wh Vb Va ohJ (by omega) o4J.bs (by omega) ?_
     intro v' h' S4 XX S5
     obtain⟨k1,k2,k3,k4,k5,k6,k7,k8⟩:=key v' h' S4 XX S5
     simp -implicitDefEqProofs only[go_sem,↓reduceIte,k1,k2,k3,k4,k5,IW,Zdp]
     exact⟨⟨_,_,rfl,⟨_,rfl,k6⟩,k7⟩,k8⟩
    ·refine Zv (E:=5) (B:=g1.size) Yt Tryz.underlying34 Wh Vb Va ohJ (by omega) o4J.bs (by omega) ?_
     intro v' h' S4 XX S5
     obtain⟨k1,k2,k3,k4,k5,k6,k7,k8⟩:=key v' h' S4 XX S5
     simp -implicitDefEqProofs only[go_sem,↓reduceIte,k1,k2,k3,k4,k5,IW,Zdp]
     exact⟨⟨_,_,rfl,⟨_,rfl,k6⟩,k7⟩,k8⟩
 ·rw[if_pos e0]at V7
  have e5:=(Px kl.length ZG top s).resolve_left e0
  simp -implicitDefEqProofs only[go_sem,↓reduceIte,e5,wz,z1]
  exact⟨⟨_,_,by rw[V7];rfl,⟨_,rfl,ZZ.nil _ _ _⟩,ZZ.nil _ _ _⟩,ov⟩
def EB (top:Int) (s:List Bool) (n:Nat):Bool:=decide ((n:Int)<top-8)||(decide ((n:Int)<top)&&s.getD ((n:Int)-(top-8)).toNat false)
theorem yn (T:World) (h:Hp) (k:Value) (ZG top:Int) (s:List Bool) (n:Nat) (hs:s.length=8) (t0:0≤top) (t1:top≤1073741824) (hn:n<1073741824) :
  Zc Tryz.prog T 38 #[.agg (ZN k ZG top s).toArray,.int .i64 n] h fun v' h'=>v'=.bool (EB top s n)∧Zf h.size h h':=by
 have U1:=Z8 k ZG top s hs
 have tk:=Xe U1
 have n2:nth (ZN k ZG top s) 2=some (.int .i64 top):=rfl
 refine Zc.Zh (args:=[_,_]) Tryz.func38 rfl rfl rfl rfl ?_
 unfold EB
 by_cases q1:(n:Int)<top-8
 ·have d1:decide ((n:Int)<top-8)=true:=decide_eq_true q1
  simp -implicitDefEqProofs only[go_sem,↓reduceIte,U1,tk,n2,q1,d1,Bool.true_or]
 ·have d1:decide ((n:Int)<top-8)=false:=decide_eq_false q1
  by_cases q2:(n:Int)<top
  ·have d2:decide ((n:Int)<top)=true:=decide_eq_true q2
   obtain⟨i,hi⟩:∃i:Nat,(n:Int)-(top-8)=i:=⟨((n:Int)-(top-8)).toNat,by omega⟩
   have hi8:i<8:=by omega
   have Zlo:(i:Int)<8:=by omega
   have n3:nth (ZN k ZG top s) (3+i)=some (.bool (s.getD i false)):=by
    have:=Sc s i (by omega)
    rw[Yi]at this ⊢
    rw[←this]
    show (k :: .int .i64 ZG :: .int .i64 top :: s.map Value.bool)[3+i]? = _
    rw[Nat.add_comm];rfl
   simp -implicitDefEqProofs only[go_sem,↓reduceIte,U1,tk,n2,q1,q2,d1,d2,hi,Zlo,Int.toNat_natCast,n3,Bool.false_or]
  ·have d2:decide ((n:Int)<top)=false:=decide_eq_false q2
   simp -implicitDefEqProofs only[go_sem,↓reduceIte,U1,tk,n2,q1,q2,d1,d2,Bool.false_or]
theorem BK (k:Value) (ZG top:Int) (s t:List Bool) (hs:s.length=8) (ht:t.length=8):Ym (ZN k ZG top s) 3 (t.map Value.bool)=ZN k ZG top t:=by
 have:=UD [k,.int .i64 ZG,.int .i64 top] (s.map Value.bool) (t.map Value.bool)
 rw[ZM (by simp[hs,ht])]at this
 exact this
set_option maxHeartbeats 1000000 in
theorem qP (T:World) (h:Hp) (k:Value) (kl:List Nat) (ZG top:Int) (s:List Bool) (n:Nat) (hs:s.length=8) (sk:Bs h k kl) (hk:kl.length≤140737488355328) (t0:0≤top) (t1:top≤1073741824) (hn:n<1073741824) (hm:¬(n:Int)<top-8) :
  Zc Tryz.prog T 41 #[.agg (ZN k ZG top s).toArray,.int .i64 n] h fun v' h'=>H8 h.size h' v' kl ZG (max top (n+1)) (Xn (VF top s 8++[(n:Int)]) (max top (n+1)))∧Zf h.size h h':=by
 obtain⟨p,c,rfl,_⟩:=sk.open
 have U1:=Z8 (.slice p kl.length c) ZG top s hs
 have tk:=Xe U1
 refine Zc.XJ (args:=[_,_]) Tryz.func41 rfl rfl rfl rfl ?_
 simp -implicitDefEqProofs only[go_sem,↓reduceIte,U1,tk]
 have Vg:Zf h.size h ((h.push (.cells (ZN (.slice p kl.length c) ZG top s).toArray 75)).push (.cells QX.toArray 75)):=by (repeat' (first|exact Zf.refl _ _|assumption|refine Zf.add ?_ _|refine Zf.Zk ?_ (by first|omega|(simp;omega)) _|refine Zf.trans (by assumption) ?_))
 refine (j1 T _ _ kl ZG top s hs (sk.Z7 Vg) hk).use ?_
 rintro _ g1 ⟨⟨w,rfl,o1⟩,b1⟩
 have x0:g1[h.size]? = some (.cells (ZN (.slice p kl.length c) ZG top s).toArray 75):=b1.get (by simp only[Array.size_push];omega) (by simp only[Array.getElem?_push,Array.size_push,IntWalk.iteOmega,↓reduceIte])
 have x1:g1[h.size+1]? = some (.cells QX.toArray 75):=b1.get (by simp only[Array.size_push];omega) (by simp only[Array.getElem?_push,Array.size_push,IntWalk.iteOmega,↓reduceIte]<;>rfl)
 have QP:Zf h.size h g1:=Vg.trans (b1.mono (by simp;omega))
 have z1:=Za x1
 simp only[Array.size_push]at o1
 obtain⟨pw,cw,rfl,_⟩:=o1.open
 clear b1 Vg
 have y2:V.hc g1 ⟨h.size,2,none⟩=some (.int .i64 top):=by rw[Zg x0];rfl
 have NU:=Z8 (.slice pw kl.length cw) ZG top s hs
 have uN:=Xe NU
 have oD:=JZ (p:=pw) (n:=kl.length) (c:=cw) ZG top s
 have lpD:∀v,Ym [v,.int .i64 0,.int .i64 0,.bool false,.bool false,.bool false,.bool false,.bool false,.bool false,.bool false,.bool false] 0 (ZN (.slice pw kl.length cw) ZG top s)=ZN (.slice pw kl.length cw) ZG top s:=fun v=>ZM NU
 have e1:(n:Int)+1=((n+1:Nat):Int):=rfl
 obtain⟨TP,hTP⟩:∃TP:Int,TP=max top (n+1):=⟨_,rfl⟩
 have jM:(if ((n+1:Nat):Int)>top then ((n+1:Nat):Int) else top)=TP:=by rw[hTP];split<;>omega
 have sD:(ZN (.slice pw kl.length cw) ZG top s).set 2 (.int .i64 TP)=ZN (.slice pw kl.length cw) ZG TP s:=rfl
 have Zlp:=Z8 (.slice pw kl.length cw) ZG TP s hs
 have lE:Ym (ZN (.slice pw kl.length cw) ZG TP s) 3 [.bool false,.bool false,.bool false,.bool false,.bool false,.bool false,.bool false,.bool false]=ZN (.slice pw kl.length cw) ZG TP (Xn (VF top s 0) TP):=BK (.slice pw kl.length cw) ZG TP s Jr hs rfl
 have y0r:rd g1 ⟨h.size,3,none⟩ 8=some (s.map Value.bool):=by
  have OM:(s.map Value.bool).length=8:=by rw[List.length_map,hs]
  have:=Z3 x0 (o:=3) (n:=8) (by rw[U1];omega)
  rw[this]
  have e:(ZN (.slice p kl.length c) ZG top s).drop 3=s.map Value.bool:=rfl
  rw[e,Xe OM]
 rw[←hTP]
 simp -implicitDefEqProofs only[go_sem,↓reduceIte,NU,uN,oD,lpD,y2,e1,jM,sD,Zlp,lE,y0r]
 obtain⟨bo,hbo⟩:∃b,b=g1.size:=⟨_,rfl⟩
 obtain⟨J,hJ⟩:=Zy (g1.push (.cells (ZN (.slice pw kl.length cw) ZG TP (Xn (VF top s 0) TP)).toArray 75))
 have J5:J[bo]? = some (.cells (ZN (.slice pw kl.length cw) ZG TP (Xn (VF top s 0) TP)).toArray 75):=by rw[hJ,hbo];exact Zb
 have J0:J[h.size]? = some (.cells (ZN (.slice p kl.length c) ZG top s).toArray 75):=by rw[hJ,Zq (by omega)];exact x0
 have J1:J[h.size+1]? = some (.cells QX.toArray 75):=by rw[hJ,Zq (by omega)];exact x1
 have JB:Zf h.size h J:=by rw[hJ];exact QP.Yf QP.size _
 have Jo:ZZ (h.size+1+1) 5 J (.slice pw kl.length cw) kl:=by rw[hJ];exact o1.push _
 have Jlt:∀b,ZL (.slice pw kl.length cw)=some b→b<bo:=fun b hb=>by have:=o1.own.lt b hb;omega
 have Jsz:J.size=bo+1:=by rw[hJ,Array.size_push,hbo]
 rw[←hJ,←hbo]
 clear hJ
 refine VS.ZV (fun F g=>F 1=.int .i64 n∧F 2=.pointer (some ⟨h.size,0,none⟩)∧F 4=.pointer (some ⟨h.size+1,0,none⟩)∧F 5=.pointer (some ⟨bo,0,none⟩)∧F 20=.agg (s.map Value.bool).toArray∧∃i:Nat,i≤8∧F 21=.int .i64 i∧g=J.setIfInBounds bo (.cells (ZN (.slice pw kl.length cw) ZG TP (Xn (VF top s i) TP)).toArray 75))
  (fun F _=>8-(vi (F 21)).toNat) rfl ⟨rfl,rfl,rfl,rfl,rfl,0,by omega,rfl,(QY J5).symm⟩ ?_
 rintro F g ⟨f1,f2,f4,f5,f20,i,hi,f21,rfl⟩
 have hx:=ZO (o:=.cells (ZN (.slice pw kl.length cw) ZG TP (Xn (VF top s i) TP)).toArray 75) J5
 have Rd:(J.setIfInBounds bo (.cells (ZN (.slice pw kl.length cw) ZG TP (Xn (VF top s i) TP)).toArray 75))[h.size]? = some (.cells (ZN (.slice p kl.length c) ZG top s).toArray 75):=by rw[Array.getElem?_setIfInBounds,if_neg (by omega)];exact J0
 have sl8:=Wv (VF top s i) TP
 have YE:=dA top s i
 obtain⟨SS,yo⟩:=Zy (Xn (VF top s i) TP)
 by_cases ZA:i<8
 ·have ZI:(i:Int)<8:=by omega
  rw[←yo]at hx Rd sl8 ⊢
  obtain⟨G,hG⟩:=Zy (J.setIfInBounds bo (.cells (ZN (.slice pw kl.length cw) ZG TP SS).toArray 75))
  rw[←hG]at hx Rd ⊢
  have n1:=Sc s i (by omega)
  have y2:V.hc G ⟨h.size,2,none⟩=some (.int .i64 top):=by rw[Zg Rd];rfl
  have y5:V.hc G ⟨bo,2,none⟩=some (.int .i64 TP):=by rw[Zg hx];rfl
  obtain⟨b,hb⟩:=Zy (s.getD i false)
  rw[←hb]at n1 YE
  cases b with
  | false=>
   rw[if_neg (by decide),List.append_nil]at YE
   simp -implicitDefEqProofs only[go_sem,↓reduceIte,f1,f2,f4,f5,f20,f21,ZI,Int.toNat_natCast,n1,y2,y5]
   refine⟨⟨f1,f2,f4,f5,f20,i+1,ZA,rfl,?_⟩,?_⟩
   ·rw[YE,hG,yo]
   ·simp only[vi,Zj,↓reduceIte,f21];omega
  | true=>
   rw[if_pos rfl]at YE
   have Bx:=O3 (VF top s i) TP (top-8+(i:Int)) (by omega)
   rw[←YE,←yo]at Bx
   have ex:top-8+(i:Int)-TP+8=top+(i:Int)-TP:=by omega
   rw[ex]at Bx
   by_cases hk0:0≤top+(i:Int)-TP
   ·rw[if_pos hk0]at Bx
    obtain⟨j,hj⟩:∃j:Nat,top+(i:Int)-TP=j:=⟨(top+(i:Int)-TP).toNat,by omega⟩
    rw[hj,Int.toNat_natCast]at Bx
    have hj8:(j:Int)<8:=by omega
    have hj0:(0:Int)≤(j:Int):=by omega
    have Zwn:j<8:=by omega
    have hlen:=Z8 (.slice pw kl.length cw) ZG TP SS sl8
    have w1:Jg G ⟨bo,3+j,none⟩ (.bool true)=some (G.setIfInBounds bo (.cells (ZN (.slice pw kl.length cw) ZG TP (SS.set j true)).toArray 75)):=by
     rw[Yp hx,if_pos ⟨by rw[hlen];omega,rfl⟩,FN]
    simp -implicitDefEqProofs only[go_sem,↓reduceIte,f1,f2,f4,f5,f20,f21,ZI,Int.toNat_natCast,n1,y2,y5,hj,hj0,hj8,w1]
    refine⟨⟨f1,f2,f4,f5,f20,i+1,ZA,rfl,?_⟩,?_⟩
    ·rw[Bx,hG,set_set]
    ·simp only[vi,Zj,↓reduceIte,f21];omega
   ·rw[if_neg hk0]at Bx
    simp -implicitDefEqProofs only[go_sem,↓reduceIte,f1,f2,f4,f5,f20,f21,ZI,Int.toNat_natCast,n1,y2,y5,hk0]
    refine⟨⟨f1,f2,f4,f5,f20,i+1,ZA,rfl,?_⟩,?_⟩
    ·rw[Bx,hG]
    ·simp only[vi,Zj,↓reduceIte,f21];omega
 ·have YF:¬(i:Int)<8:=by omega
  obtain rfl:i=8:=by omega
  have c8:((8:Nat):Int)=8:=rfl
  rw[c8]at f21 YF
  have Bx:=O3 (VF top s 8) TP (n:Int) (by omega)
  rw[if_pos (by omega),←yo]at Bx
  have Qg:(J.setIfInBounds bo (.cells (ZN (.slice pw kl.length cw) ZG TP (Xn (VF top s 8) TP)).toArray 75))[h.size+1]? = some (.cells QX.toArray 75):=by rw[Array.getElem?_setIfInBounds,if_neg (by omega)];exact J1
  have HB:=JB.Zk (b:=bo) (by omega) (.cells (ZN (.slice pw kl.length cw) ZG TP (Xn (VF top s 8) TP)).toArray 75)
  have HO:ZZ (h.size+1+1) 5 (J.setIfInBounds bo (.cells (ZN (.slice pw kl.length cw) ZG TP (Xn (VF top s 8) TP)).toArray 75)) (.slice pw kl.length cw) kl:=
   Jo.MT (x:=some bo) ⟨by simp,fun b hb Yq=>by rw[Array.getElem?_setIfInBounds,if_neg (fun e=>Yq (by rw[e]))]⟩ (fun b hb e=>by have:=Jlt b hb;simp at e;omega)
  rw[←yo]at hx Qg HB HO sl8 ⊢
  obtain⟨j,hj⟩:∃j:Nat,(n:Int)-(TP-8)=j:=⟨((n:Int)-(TP-8)).toNat,by omega⟩
  have hj2:(n:Int)-TP+8=j:=by omega
  rw[hj2,Int.toNat_natCast]at Bx
  have hj8:(j:Int)<8:=by omega
  have hlen:=Z8 (.slice pw kl.length cw) ZG TP SS sl8
  obtain⟨G,hG⟩:=Zy (J.setIfInBounds bo (.cells (ZN (.slice pw kl.length cw) ZG TP SS).toArray 75))
  rw[←hG]at hx Qg HB HO ⊢
  have y5:V.hc G ⟨bo,2,none⟩=some (.int .i64 TP):=by rw[Zg hx];rfl
  have w1:Jg G ⟨bo,3+j,none⟩ (.bool true)=some (G.setIfInBounds bo (.cells (ZN (.slice pw kl.length cw) ZG TP (SS.set j true)).toArray 75)):=by
   rw[Yp hx,if_pos ⟨by rw[hlen];omega,rfl⟩,FN]
  rw[Bx]
  have Zds:(SS.set j true).length=8:=by rw[List.length_set];exact sl8
  obtain⟨S2,hS2⟩:=Zy (SS.set j true)
  rw[←hS2]at w1 Zds ⊢
  have aN:=Z8 (.slice pw kl.length cw) ZG TP S2 Zds
  have o2:=JZ (p:=pw) (n:=kl.length) (c:=cw) ZG TP S2
  have tk2:=Xe aN
  have hxb:=ZO (o:=.cells (ZN (.slice pw kl.length cw) ZG TP S2).toArray 75) hx
  have rb:=Zo hxb aN
  have Zls:(G.setIfInBounds bo (.cells (ZN (.slice pw kl.length cw) ZG TP S2).toArray 75))[h.size+1]? = some (.cells QX.toArray 75):=by rw[Array.getElem?_setIfInBounds,if_neg (by omega)];exact Qg
  have w2:=wrZ Zls aN o2
  have k5:=Za Qg
  have HO2:ZZ (h.size+1+1) 5 (G.setIfInBounds bo (.cells (ZN (.slice pw kl.length cw) ZG TP S2).toArray 75)) (.slice pw kl.length cw) kl:=
   HO.MT (x:=some bo) ⟨by simp,fun b hb Yq=>by rw[Array.getElem?_setIfInBounds,if_neg (fun e=>Yq (by rw[e]))]⟩ (fun b hb e=>by have:=Jlt b hb;simp at e;omega)
  have xW:=(HB.Zk (b:=bo) (by omega) (.cells (ZN (.slice pw kl.length cw) ZG TP S2).toArray 75)).Zk (b:=h.size+1) (by omega) (.cells (ZN (.slice pw kl.length cw) ZG TP S2).toArray 75)
  simp -implicitDefEqProofs only[go_sem,↓reduceIte,f1,f2,f4,f5,f20,f21,YF,y5,hj,hj8,Int.toNat_natCast,w1,rb,w2,aN,tk2,k5]
  exact⟨⟨_,rfl,(HO2.ZR (by omega) _).mono (by omega)⟩,xW⟩
theorem kX {a b c d:Nat} (ha:a<256) (hb:b<256) (hc:c<256) (hd:d<256):Z5 .or .i64 (Z5 .or .i64 (Z5 .or .i64 (Yw .i64 (a:Int) 24) (Yw .i64 (b:Int) 16)) (Yw .i64 (c:Int) 8)) (d:Int)=((16777216*a+65536*b+256*c+d:Nat):Int):=by
 have e1:Yw .i64 (a:Int) 24=((a*16777216:Nat):Int):=W0 ha 24 (by omega)
 have e2:Yw .i64 (b:Int) 16=((b*65536:Nat):Int):=W0 hb 16 (by omega)
 have e3:Yw .i64 (c:Int) 8=((c*256:Nat):Int):=W0 hc 8 (by omega)
 have f1:a*16777216 ||| b*65536=a*16777216+b*65536:=JI (k:=24) (by omega) (by omega)
 have f2:(a*16777216+b*65536) ||| c*256=a*16777216+b*65536+c*256:=JI (k:=16) (by omega) (by omega)
 rw[e1,e2,e3,S3 _ _ (by omega) (by omega),f1,S3 _ _ (by omega) (by omega),f2,S3 _ _ (by omega) (by omega),JI (k:=8) (by omega) (by omega)]
 congr 1;omega
def WE (l:List Nat):Nat:=16777216*l.getD 0 0+65536*l.getD 1 0+256*l.getD 2 0+l.getD 3 0
theorem BL {l:List Nat} (w:∀x∈l,x<256) (hl:4≤l.length):YK (WE l)=l.take 4:=by
 match l,hl with
 | a :: b :: c :: d :: l,_=>
  have h1:=w a (by simp)
  have h2:=w b (by simp)
  have h3:=w c (by simp)
  have h4:=w d (by simp)
  show [_,_,_,_]=[a,b,c,d]
  have e:WE (a :: b :: c :: d :: l)=16777216*a+65536*b+256*c+d:=rfl
  rw[e]
  congr 1
  ·omega
  ·congr 1
   ·omega
   ·congr 1
    ·omega
    ·congr 1
     omega
theorem yp {a b c d:Nat} (ha:a<256) (hb:b<256) (hc:c<256) (hd:d<256):16777216*a+65536*b+256*c+d<4294967296:=by omega
theorem qQ (l:List Nat):WE l=16777216*l.getD 0 0+65536*l.getD 1 0+256*l.getD 2 0+l.getD 3 0:=by unfold WE;rfl
def VK (kl:List Nat) (ZG top:Int) (s:List Bool) (rc:List Nat):Int:=
 if Xa kl.length ZG top s≠0 then 5 else if 2020<rc.length then 1 else if rc.length<20 then 13 else if 1073741824≤WE rc then 2 else
 if EB top s (WE rc)=true then 7 else Pv kl (XW (YK (WE rc))) (YK (WE rc)) (rc.drop 4)
def aO (kl rc:List Nat):List Nat:=kU kl (XW (YK (WE rc))) (rc.drop 4)
def No (top:Int) (s:List Bool) (n:Nat):List Bool:=Xn (VF top s 8++[(n:Int)]) (max top (n+1))
def Gu (B:Nat) (h':Hp) (v':Value) (kl:List Nat) (ZG top:Int) (s:List Bool) (rc:List Nat):Prop:=∃cw w,v'=.tuple [cw,w,.int .i64 (VK kl ZG top s rc)].toArray ∧
 aM B h' cw (VK kl ZG top s rc) kl ZG (max top (WE rc+1)) (No top s (WE rc))∧ZZ B 5 h' w (if VK kl ZG top s rc=0 then aO kl rc else [])
theorem kY {top:Int} {s:List Bool} {n:Nat} (h:¬EB top s n=true):¬(n:Int)<top-8:=by
 intro ZA
 apply h
 unfold EB
 rw[decide_eq_true ZA];rfl
set_option maxHeartbeats 2000000 in
theorem EC (T:World) (h:Hp) (k u:Value) (kl rc:List Nat) (ZG top:Int) (s:List Bool) (hs:s.length=8) (sk:Bs h k kl) (sp:Bs h u rc) (ck:Td k) (cu:Td u) :
  Zc Tryz.prog T 22 #[.agg (ZN k ZG top s).toArray,u] h fun v' h'=>Gu h.size h' v' kl ZG top s rc∧Zf h.size h h':=by
 have oy:=sp.byte
 obtain⟨p,c,rfl,_⟩:=sk.open
 obtain⟨q,d,rfl,uS⟩:=sp.Uh
 have cu:rc.length≤d:=cu
 have U1:=Z8 (.slice p kl.length c) ZG top s hs
 have tk:=Xe U1
 refine Zc.XJ (args:=[_,_]) Tryz.func22 rfl rfl rfl rfl ?_
 simp -implicitDefEqProofs only[go_sem,↓reduceIte,U1,tk]
 have Vg:Zf h.size h ((h.push (.cells (ZN (.slice p kl.length c) ZG top s).toArray 75)).push (.cells QX.toArray 75)):=by (repeat' (first|exact Zf.refl _ _|assumption|refine Zf.add ?_ _|refine Zf.Zk ?_ (by first|omega|(simp;omega)) _|refine Zf.trans (by assumption) ?_))
 refine (RY T _ p kl.length c ZG top s hs).use ?_
 rintro _ g1 ⟨rfl,b1⟩
 have x0:g1[h.size]? = some (.cells (ZN (.slice p kl.length c) ZG top s).toArray 75):=b1.get (by simp only[Array.size_push];omega) (by simp only[Array.getElem?_push,Array.size_push,IntWalk.iteOmega,↓reduceIte])
 have x1:g1[h.size+1]? = some (.cells QX.toArray 75):=b1.get (by simp only[Array.size_push];omega) (by simp only[Array.getElem?_push,Array.size_push,IntWalk.iteOmega,↓reduceIte]<;>rfl)
 have QP:Zf h.size h g1:=Vg.trans (b1.mono (by simp;omega))
 have z1:=Za x1
 clear b1 Vg
 have V7:VK kl ZG top s rc=if Xa kl.length ZG top s≠0 then 5 else if 2020<rc.length then 1 else if rc.length<20 then 13 else if 1073741824≤WE rc then 2 else
 if EB top s (WE rc)=true then 7 else Pv kl (XW (YK (WE rc))) (YK (WE rc)) (rc.drop 4):=rfl
 unfold Gu aM aO
 have hbe:WE rc=16777216*rc.getD 0 0+65536*rc.getD 1 0+256*rc.getD 2 0+rc.getD 3 0:=qQ rc
 have h4:4≤rc.length→YK (WE rc)=rc.take 4:=fun hl=>BL oy hl
 obtain⟨E,hE⟩:=Zy (VK kl ZG top s rc)
 rw[←hE]at V7 ⊢
 clear hE
 obtain⟨n,hn⟩:=Zy (WE rc)
 rw[←hn]at V7 hbe h4 ⊢
 clear hn
 have wz:∀g:Hp,g[h.size+1]? = some (.cells QX.toArray 75)→wr g ⟨h.size+1,0,none⟩ [.slice none 0 0,.int .i64 0,.int .i64 0,.bool false,.bool false,.bool false,.bool false,.bool false,.bool false,.bool false,.bool false]=some (g.setIfInBounds (h.size+1) (.cells [.slice none 0 0,.int .i64 0,.int .i64 0,.bool false,.bool false,.bool false,.bool false,.bool false,.bool false,.bool false,.bool false].toArray 75)):=fun g hg=>wrZ hg rfl rfl
 have ov:∀g:Hp,Zf h.size h g→Zf h.size h (g.setIfInBounds (h.size+1) (.cells #[.slice none 0 0,.int .i64 0,.int .i64 0,.bool false,.bool false,.bool false,.bool false,.bool false,.bool false,.bool false,.bool false] 75)):=fun g hg=>hg.Zk (by omega) _
 have wz1:=wz g1 x1
 by_cases e0:Xa kl.length ZG top s=0
 ·obtain⟨hk,s0,s1,t0,t1⟩:=Py e0
  rw[if_neg (by simp[e0])]at V7
  by_cases hm:2020<rc.length
  ·rw[if_pos hm]at V7
   have Ma:2020<(rc.length:Int):=by omega
   simp -implicitDefEqProofs only[go_sem,↓reduceIte,e0,Ma,wz1,z1]
   exact⟨⟨_,_,by rw[V7];rfl,⟨_,rfl,ZZ.nil _ _ _⟩,ZZ.nil _ _ _⟩,ov _ QP⟩
  ·rw[if_neg hm]at V7
   have Ma:¬2020<(rc.length:Int):=by omega
   by_cases qS:rc.length<20
   ·rw[if_pos qS]at V7
    have yq:(rc.length:Int)<20:=by omega
    simp -implicitDefEqProofs only[go_sem,↓reduceIte,e0,Ma,yq,wz1,z1]
    exact⟨⟨_,_,by rw[V7];rfl,⟨_,rfl,ZZ.nil _ _ _⟩,ZZ.nil _ _ _⟩,ov _ QP⟩
   ·rw[if_neg qS]at V7
    have yq:¬(rc.length:Int)<20:=by omega
    obtain⟨bb,oo,rfl,UX,uS⟩:=uS (by intro e;rw[e]at qS;simp at qS)
    have u0:V.hc g1 ⟨bb,oo+0,none⟩=some (.int .u8 (rc.getD 0 0:Nat)):=by rw[QP.hc (by exact UX)];exact uS 0 (by omega)
    have u1:V.hc g1 ⟨bb,oo+1,none⟩=some (.int .u8 (rc.getD 1 0:Nat)):=by rw[QP.hc (by exact UX)];exact uS 1 (by omega)
    have u2:V.hc g1 ⟨bb,oo+2,none⟩=some (.int .u8 (rc.getD 2 0:Nat)):=by rw[QP.hc (by exact UX)];exact uS 2 (by omega)
    have u3:V.hc g1 ⟨bb,oo+3,none⟩=some (.int .u8 (rc.getD 3 0:Nat)):=by rw[QP.hc (by exact UX)];exact uS 3 (by omega)
    rw[Nat.add_zero]at u0
    have w0:=ZF oy 0
    have w1:=ZF oy 1
    have w2:=ZF oy 2
    have w3:=ZF oy 3
    have h4:=h4 (by omega)
    have s4:=Sj sp (m:=4) (by omega) 4
    rw[←h4]at s4
    generalize rc.getD 0 0=r0 at *
    generalize rc.getD 1 0=r1 at *
    generalize rc.getD 2 0=r2 at *
    generalize rc.getD 3 0=r3 at *
    have Zdt:Unit→_:=fun _=>V7
    clear V7
    have Zkr:n<4294967296:=by rw[hbe];exact yp w0 w1 w2 w3
    have d4:(4:Int)≤d:=by omega
    have sh:Unit→Z5 .or .i64 (Z5 .or .i64 (Z5 .or .i64 (Yw .i64 (r0:Int) 24) (Yw .i64 (r1:Int) 16)) (Yw .i64 (r2:Int) 8)) (r3:Int)=(n:Int):=fun _=>by rw[kX w0 w1 w2 w3,hbe]
    clear hbe
    simp -implicitDefEqProofs only[go_sem,↓reduceIte,e0,Ma,yq,d4]
    refine VS.mono (N:=fun F g=>g1=g∧F 1=.slice (some ⟨bb,oo,none⟩) rc.length d∧F 2=.pointer (some ⟨h.size,0,none⟩)∧F 4=.pointer (some ⟨h.size+1,0,none⟩)∧F 8=.slice (some ⟨bb,oo,none⟩) 4 4∧F 9=.int .i64 n) ?_ ?_ (fun _ _ _ h=>h) (fun _ _ h=>h)
    ·refine VS.q mixed (by kernel_rfl) ?_
     simp -implicitDefEqProofs only[go_sem,↓reduceIte,u0,u1,u2,u3]
     exact congrArg _ (sh ())
    clear sh w0 w1 w2 w3
    have V7:=Zdt ()
    clear Zdt
    rintro F _ ⟨rfl,f1,f2,f4,f8,f9⟩
    by_cases hb:1073741824≤n
    ·rw[if_pos hb]at V7
     have XX:(1073741824:Int)≤(n:Int):=by clear V7;omega
     simp -implicitDefEqProofs only[go_sem,↓reduceIte,f1,f2,f4,f8,f9,XX,wz1,z1]
     exact⟨⟨_,_,by rw[V7];rfl,⟨_,rfl,ZZ.nil _ _ _⟩,ZZ.nil _ _ _⟩,ov _ QP⟩
    ·rw[if_neg hb]at V7
     have XX:¬(1073741824:Int)≤(n:Int):=by clear V7;omega
     have rC:rd g1 ⟨h.size,0,none⟩ 11=some (ZN (.slice p kl.length c) ZG top s):=Zo x0 U1
     simp -implicitDefEqProofs only[go_sem,↓reduceIte,f1,f2,f4,f8,f9,XX,rC]
     refine (yn T _ _ ZG top s n hs t0 t1 (by clear V7;omega)).use ?_
     rintro _ g2 ⟨rfl,b2⟩
     have x02:=b2.get (Nat.lt_of_succ_lt z1) x0
     have x12:=b2.get z1 x1
     have z2:=b2.size
     have Tn:=QP.trans (b2.mono QP.size)
     have wz2:=wz g2 x12
     have zl2:=Za x12
     by_cases kZ:EB top s n=true
     ·rw[if_pos kZ]at V7
      simp -implicitDefEqProofs only[go_sem,↓reduceIte,f1,f2,f4,f8,f9,kZ,wz2,zl2]
      exact⟨⟨_,_,by rw[V7];rfl,⟨_,rfl,ZZ.nil _ _ _⟩,ZZ.nil _ _ _⟩,ov _ Tn⟩
     ·rw[if_neg kZ]at V7
      have Zc6:=kY kZ
      have Zdu:EB top s n=false:=by simpa using kZ
      have y0:V.hc g2 ⟨h.size,0,none⟩=some (.slice p kl.length c):=by rw[Zg x02];rfl
      have zl0:=Za x02
      have l4:(YK n).length=4:=rfl
      have l12:(XW (YK n)).length≤1000:=by simp[XW,YK]
      have sbk:=Sf sp rfl (k:=4) (by omega) cu (d-4)
      have Zlv:(4:Int)≤rc.length:=by clear V7;omega
      simp -implicitDefEqProofs only[go_sem,↓reduceIte,f1,f2,f4,f8,f9,Zdu]
      refine VS.w (g2.size) [] (.q 0 (.q 1 (.q 2 (.q 4 (.q 5 (.q 6 (.s 3 (.s 7 (.q 8 (.q 9 (.q 10 (.q 11 (.q 12 .nil))))))))))))) mixed (by kernel_rfl) ?_
      simp -implicitDefEqProofs only[go_sem,↓reduceIte,f1,f2,f4,f8,f9,y0,zl0,Zlv,QF]
      refine (Pw T _ _ _ (s4.Z7 Tn) (by rw[l4];decide)).use ?_
      rintro vn g3 ⟨on,b3⟩
      have z3:=b3.size
      have b3T:Zf g2.size g2 g3=True:=eq_true b3
      have hB3:=Tn.trans (b3.mono Tn.size)
      simp -implicitDefEqProofs only[go_sem,↓reduceIte,f1,f2,f4,f8,f9,b3T]
      refine (qO T _ _ _ _ _ kl (XW (YK n)) (YK n) (rc.drop 4) (sk.Z7 hB3) on.bs (s4.Z7 hB3) (sbk.Z7 hB3) ck on.cap (show rc.length-4≤d-4 by omega)).use ?_
      rintro _ g4 ⟨⟨w4,rfl,o4⟩,b4⟩
      have z4:=b4.size
      have DP:Zf g2.size g2 g4:=b3.trans (b4.mono z3)
      have kW:Zf g2.size g2 g4=True:=eq_true DP
      rw[←V7]at o4 ⊢
      have x14:=DP.get zl2 x12
      have x04:=DP.get zl0 x02
      have aE:=Tn.trans (DP.mono Tn.size)
      have wz4:=wz g4 x14
      have zl4:=Za x14
      clear V7
      by_cases hE0:E=0
      ·subst hE0
       rw[if_pos rfl]at o4
       have rC4:rd g4 ⟨h.size,0,none⟩ 11=some (ZN (.slice p kl.length c) ZG top s):=Zo x04 U1
       simp -implicitDefEqProofs only[go_sem,↓reduceIte,f1,f2,f4,f8,f9,kW,rC4]
       refine (qP T _ _ kl ZG top s n hs (sk.Z7 aE) (by omega) t0 t1 (by omega) Zc6).use ?_
       rintro _ g5 ⟨⟨w5,rfl,o5⟩,b5⟩
       have x15:=b5.get zl4 x14
       have z5:=b5.size
       obtain⟨pw,cw,rfl,_⟩:=o5.open
       have l8:(No top s n).length=8:=Wv _ _
       have NU:=Z8 (.slice pw kl.length cw) ZG (max top ((n:Int)+1)) (No top s n) l8
       have oD:=JZ (p:=pw) (n:=kl.length) (c:=cw) ZG (max top ((n:Int)+1)) (No top s n)
       have uN:=Xe NU
       have wD:=wrZ x15 NU oD
       have zl5:=Za x15
       rw[show Xn (VF top s 8++[(n:Int)]) (max top ((n:Int)+1))=No top s n from rfl]
       have o4':=o4.Z7 b5 (Nat.le_refl _)
       obtain⟨C5,hC5⟩:=Zy (ZN (.slice pw kl.length cw) ZG (max top ((n:Int)+1)) (No top s n))
       rw[←hC5]at NU oD uN wD ⊢
       simp -implicitDefEqProofs only[go_sem,↓reduceIte,f1,f2,f4,f8,f9,kW,wD,NU,uN,zl5]
       exact⟨⟨_,_,rfl,⟨_,by rw[hC5],(o5.ZR (by omega) _).mono (by omega)⟩,(o4'.ZR (by omega) _).mono (by omega)⟩,(aE.trans (b5.mono aE.size)).Zk (by omega) _⟩
      ·rw[if_neg hE0]at o4
       simp -implicitDefEqProofs only[go_sem,↓reduceIte,f1,f2,f4,f8,f9,kW,hE0,wz4,zl4]
       exact⟨⟨_,_,rfl,⟨_,rfl,ZZ.nil _ _ _⟩,ZZ.nil _ _ _⟩,ov _ aE⟩
 ·rw[if_pos e0]at V7
  have e5:=(Px kl.length ZG top s).resolve_left e0
  simp -implicitDefEqProofs only[go_sem,↓reduceIte,e5,wz1,z1]
  exact⟨⟨_,_,by rw[V7];rfl,⟨_,rfl,ZZ.nil _ _ _⟩,ZZ.nil _ _ _⟩,ov _ QP⟩
end Go.Proofs.YtpomedigibbeeaaGreatDoor
