/- Bytes padded to sixteen, lengths in eight bytes, and the tag of what is sealed, on both sides; no condition but those in the statements. -/
import Derived.Test.YtboeoomhjbcecaaGreatDoorPolg
import Derived.Test.YtboeoomhjbcecaaGreatDoorMix
import Derived.Test.YtboeoomhjbcecaaGreatDoorBytes
import Derived.Test.YtboeoomhjbcecaaGreatDoorVst
import Derived.Test.YtboeoomhjbcecaaGreatDoorW15
import Derived.Test.YtboeoomhjbcecaaGreatDoorLine
import Derived.Test.YtboeoomhjbcecaaGreatDoorW13
namespace Go.Proofs.YtboeoomhjbcecaaGreatDoor
open Go Go.V
set_option linter.unusedSimpArgs false
set_option linter.unusedVariables false
set_option maxRecDepth 100000
def iU (l:List Nat):List Nat:=l++List.replicate ((16-l.length%16)%16) 0
def D2 (n:Nat):List Nat:=(List.range 8).map fun i=>n/256 ^ i%256
def V0 (known Jd:List Nat):List Nat:=iU known++iU Jd++D2 known.length++D2 Jd.length
def QR (key Zs known Jd:List Nat):List Nat:=aB ((Xu key 0 Zs).take 32) (V0 known Jd)
theorem D3 (l:List Nat):(iU l).length=l.length+(16-l.length%16)%16:=by simp[iU]
theorem Lx (l:List Nat):(iU l).length≤l.length+15:=by rw[D3];omega
theorem JP (n:Nat):(D2 n).length=8:=by simp[D2]
theorem Gi (T:World) (h:Hp) (v:Value) (l:List Nat) (s:Bs h v l) (hl:l.length≤4000) :
  Zc Tryz.prog T 131 #[v] h fun v' h'=>Z0 h.size 5 h' v' (iU l)∧Zg h.size h h':=by
 obtain⟨p,c,rfl,Us⟩:=s.open;refine Zc.Zj (args:=[_]) Tryz.func131 rfl rfl rfl rfl ?_;simp -implicitDefEqProofs only[go_sem,↓reduceIte];refine Zv (E:=5) (B:=h.size) YA Tryz.underlying48 Wi WY WX (Z0.nil _ _ _) (Nat.le_refl _) s (by simp;omega) ?_;intro v1 h1 o1 b1 _;rw[List.nil_append]at o1;have e1:((l.length:Nat):Int).tmod 16=((l.length%16:Nat):Int):=rfl;have e2:(16:Int)-((l.length%16:Nat):Int)=((16-l.length%16:Nat):Int):=by omega
 have e3:((16-l.length%16:Nat):Int).tmod 16=(((16-l.length%16)%16:Nat):Int):=rfl;simp -implicitDefEqProofs only[go_sem,↓reduceIte,e1,e2,e3];refine Kj (E:=5) (B:=h.size) YA Tryz.underlying3 Wi WY WX o1 b1.size (by omega) ?_;intro v2 h2 o2 b2 _;simp -implicitDefEqProofs only[go_sem,↓reduceIte];exact⟨o2,b1.trans b2⟩
theorem Gj (T:World) (h:Hp) (n:Nat) (hn:n<9223372036854775808) :
  Zc Tryz.prog T 132 #[.int .i64 n] h fun v' h'=>Z0 h.size 5 h' v' (D2 n)∧Zg h.size h h':=by
 refine Zc.Zj (args:=[_]) Tryz.func132 rfl rfl rfl rfl ?_;simp -implicitDefEqProofs only[go_sem,↓reduceIte];refine VS.ZW (fun F g=>Zg h.size h g∧F 0=.int .i64 n∧∃j:Nat,j≤8∧F 4=.int .i64 (8*j:Nat)∧Z0 h.size 5 g (F 3) ((D2 n).take j))
  (fun F _=>64-(vi (F 4)).toNat) rfl ⟨Zg.refl _ _,rfl,0,by omega,rfl,Z0.nil _ _ _⟩ ?_
 rintro F g ⟨hg,f0,j,hj,f4,ho⟩;have So:=hg.size;by_cases ZD:j<8
 ·have ZP:((8*j:Nat):Int)<64:=by omega
  have e1:YT .i64 (n:Int) ((8*j:Nat):Int)=((n/256 ^ j:Nat):Int):=by
   rw[SP .i64 n (8*j) (by show 8*j≤64;omega),Nat.shiftRight_eq_div_pow,Nat.pow_mul]
  have e2:((n/256 ^ j:Nat):Int)%256=((n/256 ^ j%256:Nat):Int):=rfl;have e3:¬((8*j:Nat):Int)<0:=by omega
  have e4:((8*j:Nat):Int)+8=((8*(j+1):Nat):Int):=by omega
  simp -implicitDefEqProofs only[go_sem,↓reduceIte,f0,f4,ZP,e1,e2,e3];have hX:n/256 ^ j%256<256:=Nat.mod_lt _ (by decide);refine Zv (E:=5) (B:=h.size) YA Tryz.underlying48 Wi WY WX (ho.push _) (by simp;omega) (Bs.one hX 1) (by simp[JP];omega) ?_;intro v' h' RS XU _;simp -implicitDefEqProofs only[go_sem,↓reduceIte,f0,f4,e4];refine⟨⟨(hg.Yg So _).trans XU,f0,j+1,ZD,rfl,?_⟩,?_⟩
  ·rw[Ym _ j (by rw[JP];exact ZD)];have e:(D2 n)[j]'(by rw[JP];exact ZD)=n/256 ^ j%256:=by simp[D2]
   rw[e];exact RS
  ·simp only[vi,Zm,↓reduceIte,f4];omega
 ·have YK:¬((8*j:Nat):Int)<64:=by omega
  obtain rfl:j=8:=by omega
  rw[List.take_of_length_le (by rw[JP];exact Nat.le_refl _)]at ho;simp -implicitDefEqProofs only[go_sem,↓reduceIte,f0,f4,YK];exact⟨ho,hg⟩
theorem RC {key Zs:List Nat} {k:Int} (hk:key.length=32) (hn:Zs.length=12) (h0:0≤k) (h1:k≤1073741824):XL key k Zs=0:=by
 unfold XL;rw[if_neg (by omega),if_neg (by omega)]
theorem Hl (key:List Nat) (k:Nat) (Zs:List Nat):(Xu key k Zs).length=64:=by simp[Xu,He]
theorem D4 {known Jd:List Nat} (hk:known.length≤256) (hs:Jd.length≤2000):(V0 known Jd).length≤2400:=by
 unfold V0;have h1:=Lx known;have h2:=Lx Jd;simp only[List.length_append,JP];omega
theorem D5 {key data:List Nat} (hk:key.length=32) (hd:data.length≤4000):Vv key data=0:=by
 unfold Vv;rw[if_neg (by omega)]
set_option maxHeartbeats 1000000 in
theorem Mu (T:World) (h:Hp) (v u kn sv:Value) (key Zs known Jd:List Nat) (sk:Bs h v key) (sn:Bs h u Zs) (sw:Bs h kn known) (ss:Bs h sv Jd) (hk:key.length=32) (hn:Zs.length=12) (hw:known.length≤256) (hs:Jd.length≤2000) (ck:Tu v) (cn:Tu u) :
  Zc Tryz.prog T 114 #[v,u,kn,sv] h fun v' h'=>Z0 h.size 5 h' v' (QR key Zs known Jd)∧Zg h.size h h':=by
 obtain⟨pw,cw,rfl,_⟩:=sw.open;obtain⟨ps,cs,rfl,_⟩:=ss.open;refine Zc.Zj (args:=[_,_,_,_]) Tryz.func114 rfl rfl rfl rfl ?_;simp -implicitDefEqProofs only[go_sem,↓reduceIte];refine (oM T _ _ _ key Zs 0 sk sn ck cn).use ?_;rintro _ h1 ⟨⟨w1,rfl,o1⟩,b1⟩;have e0:=RC (k:=0) hk hn (by decide) (by decide);rw[e0,if_pos rfl]at o1;rw[e0];have o1:Z0 h.size 5 h1 w1 (Xu key 0 Zs):=o1;have z1:=b1.size;simp -implicitDefEqProofs only[go_sem,↓reduceIte];refine (Gi T _ _ known (sw.Z3 b1) (by omega)).use ?_;rintro v2 h2 ⟨o2,b2⟩;have z2:=b2.size;have B2:=b1.trans (b2.mono z1);simp -implicitDefEqProofs only[go_sem,↓reduceIte];refine (Gi T _ _ Jd (ss.Z3 B2) (by omega)).use ?_;rintro v3 h3 ⟨o3,b3⟩;have z3:=b3.size;have B3:=B2.trans (b3.mono (by omega));have l1:=Lx known;have l2:=Lx Jd;simp -implicitDefEqProofs only[go_sem,↓reduceIte];refine Zv (E:=5) (B:=h1.size) YA Tryz.underlying48 Wi WY WX (o2.Z3 b3 (Nat.le_refl _)) (by omega) o3.bs (by omega) ?_;intro v4 h4 o4 b4 _;have z4:=b4.size;simp -implicitDefEqProofs only[go_sem,↓reduceIte];refine (Gj T _ known.length (by omega)).use ?_;rintro v5 h5 ⟨o5,b5⟩;have z5:=b5.size;simp -implicitDefEqProofs only[go_sem,↓reduceIte];refine Zv (E:=5) (B:=h1.size) YA Tryz.underlying48 Wi WY WX (o4.Z3 b5 (Nat.le_refl _)) (by omega) o5.bs (by simp only[List.length_append,JP];omega) ?_;intro v6 h6 o6 b6 _;have z6:=b6.size;simp -implicitDefEqProofs only[go_sem,↓reduceIte];refine (Gj T _ Jd.length (by omega)).use ?_;rintro v7 h7 ⟨o7,b7⟩;have z7:=b7.size;simp -implicitDefEqProofs only[go_sem,↓reduceIte];refine Zv (E:=5) (B:=h1.size) YA Tryz.underlying48 Wi WY WX (o6.Z3 b7 (Nat.le_refl _)) (by omega) o7.bs (by simp only[List.length_append,JP];omega) ?_;intro v8 h8 o8 b8 _;have z8:=b8.size;have o8:Z0 h1.size 5 h8 v8 (V0 known Jd):=o8;have B8:Zg h1.size h1 h8:=(((((b2.trans (b3.mono z2)).trans b4).trans (b5.mono (by omega))).trans b6).trans (b7.mono (by omega))).trans b8;have o1':=o1.Z3 B8 (Nat.le_refl _);have hlb:=Hl key 0 Zs;obtain⟨pb,cb,rfl,IY⟩:=o1'.open;rw[hlb]at IY o1' ⊢;have s32:=S4 o1'.bs (m:=32) (by omega) cb;have c32:(32:Int)≤cb:=by omega
 have l32:((Xu key 0 Zs).take 32).length=32:=by rw[List.length_take];omega
 have hd:=D4 hw hs;simp -implicitDefEqProofs only[go_sem,↓reduceIte,c32];refine (D1 T _ _ _ ((Xu key 0 Zs).take 32) (V0 known Jd) s32 o8.bs (show 32≤cb by omega) o8.cap).use ?_;rintro _ h9 ⟨⟨w9,rfl,o9⟩,b9⟩;have e9:=D5 (data:=V0 known Jd) l32 (by omega);rw[e9,if_pos rfl]at o9;rw[e9];simp -implicitDefEqProofs only[go_sem,↓reduceIte];exact⟨o9.mono (by omega),(b1.trans (B8.mono z1)).trans (b9.mono (by omega))⟩
def Je (k n w m Xv:Nat):Int:=if k≠32∨n≠12∨256<w∨Xv<m then 1 else 0
theorem OB {k n w m Xv:Nat} (e:Je k n w m Xv=0):k=32∧n=12∧w≤256∧m≤Xv:=by
 unfold Je at e;split at e
 ·cases e
 ·omega
theorem Mv {k n w m Xv:Nat} (e:¬Je k n w m Xv=0):Je k n w m Xv=1:=by
 unfold Je at e ⊢;split
 ·rfl
 ·rename_i h;rw[if_neg h]at e;exact (e rfl).elim
theorem OC (T:World) (h:Hp) (p q r s:Option Addr) (k n w m c1 c2 c3 c4 Xv:Nat) :
  Zc Tryz.prog T 112 #[.slice p k c1,.slice q n c2,.slice r w c3,.slice s m c4,.int .i64 Xv] h fun v' h'=>v'=.int .i64 (Je k n w m Xv)∧h'=h:=by
 refine Zc.Zj (args:=[_,_,_,_,_]) Tryz.func112 rfl rfl rfl rfl ?_;unfold Je;by_cases q0:k=32
 ·
  by_cases q1:n=12
  ·
   by_cases q2:w≤256
   ·
    by_cases q3:m≤Xv
    ·
     have c0:(k:Int)=32∨¬(k:Int)=32:=by omega
     have c1:(n:Int)=12∨¬(n:Int)=12:=by omega
     have c2:256<(w:Int)∨¬256<(w:Int):=by omega
     have c3:(Xv:Int)<(m:Int)∨¬(Xv:Int)<(m:Int):=by omega
     rcases c0 with c0|c0<;>rcases c1 with c1|c1<;>rcases c2 with c2|c2<;>rcases c3 with c3|c3<;>first
      | (exfalso;omega)
      | (rw[if_neg (by omega)];simp -implicitDefEqProofs only[go_sem,↓reduceIte,c0,c1,c2,c3])
      | (rw[if_pos (by omega)];simp -implicitDefEqProofs only[go_sem,↓reduceIte,c0,c1,c2,c3])
    ·
     have c0:(k:Int)=32∨¬(k:Int)=32:=by omega
     have c1:(n:Int)=12∨¬(n:Int)=12:=by omega
     have c2:256<(w:Int)∨¬256<(w:Int):=by omega
     have c3:(Xv:Int)<(m:Int)∨¬(Xv:Int)<(m:Int):=by omega
     rcases c0 with c0|c0<;>rcases c1 with c1|c1<;>rcases c2 with c2|c2<;>rcases c3 with c3|c3<;>first
      | (exfalso;omega)
      | (rw[if_neg (by omega)];simp -implicitDefEqProofs only[go_sem,↓reduceIte,c0,c1,c2,c3])
      | (rw[if_pos (by omega)];simp -implicitDefEqProofs only[go_sem,↓reduceIte,c0,c1,c2,c3])
   ·
    have c0:(k:Int)=32∨¬(k:Int)=32:=by omega
    have c1:(n:Int)=12∨¬(n:Int)=12:=by omega
    have c2:256<(w:Int)∨¬256<(w:Int):=by omega
    have c3:(Xv:Int)<(m:Int)∨¬(Xv:Int)<(m:Int):=by omega
    rcases c0 with c0|c0<;>rcases c1 with c1|c1<;>rcases c2 with c2|c2<;>rcases c3 with c3|c3<;>first
     | (exfalso;omega)
     | (rw[if_neg (by omega)];simp -implicitDefEqProofs only[go_sem,↓reduceIte,c0,c1,c2,c3])
     | (rw[if_pos (by omega)];simp -implicitDefEqProofs only[go_sem,↓reduceIte,c0,c1,c2,c3])
  ·
   have c0:(k:Int)=32∨¬(k:Int)=32:=by omega
   have c1:(n:Int)=12∨¬(n:Int)=12:=by omega
   have c2:256<(w:Int)∨¬256<(w:Int):=by omega
   have c3:(Xv:Int)<(m:Int)∨¬(Xv:Int)<(m:Int):=by omega
   rcases c0 with c0|c0<;>rcases c1 with c1|c1<;>rcases c2 with c2|c2<;>rcases c3 with c3|c3<;>first
    | (exfalso;omega)
    | (rw[if_neg (by omega)];simp -implicitDefEqProofs only[go_sem,↓reduceIte,c0,c1,c2,c3])
    | (rw[if_pos (by omega)];simp -implicitDefEqProofs only[go_sem,↓reduceIte,c0,c1,c2,c3])
 ·
  have c0:(k:Int)=32∨¬(k:Int)=32:=by omega
  have c1:(n:Int)=12∨¬(n:Int)=12:=by omega
  have c2:256<(w:Int)∨¬256<(w:Int):=by omega
  have c3:(Xv:Int)<(m:Int)∨¬(Xv:Int)<(m:Int):=by omega
  rcases c0 with c0|c0<;>rcases c1 with c1|c1<;>rcases c2 with c2|c2<;>rcases c3 with c3|c3<;>first
   | (exfalso;omega)
   | (rw[if_neg (by omega)];simp -implicitDefEqProofs only[go_sem,↓reduceIte,c0,c1,c2,c3])
   | (rw[if_pos (by omega)];simp -implicitDefEqProofs only[go_sem,↓reduceIte,c0,c1,c2,c3])
def Gk (key Zs known plain:List Nat):List Nat:=On key 1 Zs plain++QR key Zs known (On key 1 Zs plain)
def eh (B:Nat) (h':Hp) (v':Value) (key Zs known plain:List Nat):Prop:=∃w,v'=.tuple [w,.int .i64 (Je key.length Zs.length known.length plain.length 2000)].toArray∧Z0 B 5 h' w (if Je key.length Zs.length known.length plain.length 2000=0 then Gk key Zs known plain else [])
theorem Mw {key Zs:List Nat} {k:Int} {n:Nat} (hk:key.length=32) (hn:Zs.length=12) (h0:0≤k) (h1:k≤1073741824) (hm:n≤2000):Vq key k Zs n=0:=by
 unfold Vq;rw[RC hk hn h0 h1,if_neg (by simp),if_neg (by omega)]
theorem Ly (key data:List Nat):(aB key data).length≤16:=by rw[DT];exact Nat.le_refl _
theorem vV (T:World) (h:Hp) (v u kn sv:Value) (key Zs known plain:List Nat) (sk:Bs h v key) (sn:Bs h u Zs) (sw:Bs h kn known) (ss:Bs h sv plain) (ck:Tu v) (cn:Tu u) :
  Zc Tryz.prog T 82 #[v,u,kn,sv] h fun v' h'=>eh h.size h' v' key Zs known plain∧Zg h.size h h':=by
 obtain⟨p,c,rfl,_⟩:=sk.open;obtain⟨q,d,rfl,_⟩:=sn.open;obtain⟨pw,cw,rfl,_⟩:=sw.open;obtain⟨ps,cs,rfl,_⟩:=ss.open;refine Zc.Zj (args:=[_,_,_,_]) Tryz.func82 rfl rfl rfl rfl ?_;unfold eh;simp -implicitDefEqProofs only[go_sem,↓reduceIte];refine (OC T _ _ _ _ _ _ _ _ _ _ _ _ _ 2000).pure ?_;by_cases e:Je key.length Zs.length known.length plain.length 2000=0
 ·obtain⟨hk,hn,hw,hs⟩:=OB e;rw[e,if_pos rfl];simp -implicitDefEqProofs only[go_sem,↓reduceIte,e];refine (oS T _ _ _ _ key Zs plain 1 sk sn ss ck cn).use ?_;rintro _ h1 ⟨⟨w1,rfl,o1⟩,b1⟩;have e1:=Mw (k:=1) hk hn (by decide) (by decide) hs;rw[e1,if_pos rfl]at o1;rw[e1];have o1:Z0 h.size 5 h1 w1 (On key 1 Zs plain):=o1;have z1:=b1.size;have l1:=Vc key 1 Zs plain;simp -implicitDefEqProofs only[go_sem,↓reduceIte];refine (Mu T _ _ _ _ _ key Zs known (On key 1 Zs plain) (sk.Z3 b1) (sn.Z3 b1) (sw.Z3 b1) o1.bs hk hn hw (by omega) ck cn).use ?_;rintro v2 h2 ⟨o2,b2⟩;have l2:(QR key Zs known (On key 1 Zs plain)).length≤16:=Ly _ _;have z2:=b2.size;simp -implicitDefEqProofs only[go_sem,↓reduceIte];refine Zv (E:=5) (B:=h.size) YA Tryz.underlying48 Wi WY WX (o1.Z3 b2 (Nat.le_refl _)) (by omega) o2.bs (by omega) ?_;intro v3 h3 o3 b3 _;simp -implicitDefEqProofs only[go_sem,↓reduceIte];exact⟨⟨_,rfl,o3⟩,(b1.trans (b2.mono z1)).trans b3⟩
 ·have e1:=Mv e;rw[if_neg e];simp -implicitDefEqProofs only[go_sem,↓reduceIte,e1];exact⟨_,rfl,Z0.nil _ _ _⟩
theorem Gl (a:Option Addr) (c:Nat):A9 a 1 c 0=a:=by
 unfold A9;split
 ·rfl
 ·cases a with
  | none=>rfl
  | some a=>simp[Addr.add]
def OD (key Zs known data:List Nat):Int:=if Je key.length Zs.length known.length data.length 2016≠0 then 1 else if data.length<16 then 13 else if QR key Zs known (data.take (data.length-16))≠data.drop (data.length-16) then 6 else 0
def pJ (key Zs data:List Nat):List Nat:=On key 1 Zs (data.take (data.length-16))
def ej (B:Nat) (h':Hp) (v':Value) (key Zs known data:List Nat):Prop:=∃w,v'=.tuple [w,.int .i64 (OD key Zs known data)].toArray∧Z0 B 5 h' w (if OD key Zs known data=0 then pJ key Zs data else [])
theorem vW (T:World) (h:Hp) (v u kn sv:Value) (key Zs known data:List Nat) (sk:Bs h v key) (sn:Bs h u Zs) (sw:Bs h kn known) (ss:Bs h sv data) (ck:Tu v) (cn:Tu u) (cs:Tu sv) :
  Zc Tryz.prog T 87 #[v,u,kn,sv] h fun v' h'=>ej h.size h' v' key Zs known data∧Zg h.size h h':=by
 obtain⟨p,c,rfl,_⟩:=sk.open;obtain⟨q,d,rfl,_⟩:=sn.open;obtain⟨pw,cw,rfl,_⟩:=sw.open;obtain⟨ps,cd,rfl,_⟩:=ss.open;have cs:data.length≤cd:=cs;refine Zc.Zj (args:=[_,_,_,_]) Tryz.func87 rfl rfl rfl rfl ?_;unfold ej;simp -implicitDefEqProofs only[go_sem,↓reduceIte];refine (OC T _ _ _ _ _ _ _ _ _ _ _ _ _ 2016).pure ?_;have pK:OD key Zs known data=if Je key.length Zs.length known.length data.length 2016≠0 then 1 else if data.length<16 then 13 else if QR key Zs known (data.take (data.length-16))≠data.drop (data.length-16) then 6 else 0:=rfl
 by_cases e:Je key.length Zs.length known.length data.length 2016=0
 ·obtain⟨hk,hn,hw,hs⟩:=OB e;rw[if_neg (by simp[e])]at pK;by_cases h16:data.length<16
  ·rw[if_pos h16]at pK;rw[pK];have n0:(data.length:Int)-16<0:=by omega
   simp -implicitDefEqProofs only[go_sem,↓reduceIte,e,n0];exact⟨_,rfl,Z0.nil _ _ _⟩
  ·rw[if_neg h16]at pK;have n0:¬((data.length-16:Nat):Int)<0:=by omega
   have n1:(data.length:Int)-16=((data.length-16:Nat):Int):=by omega
   have sfr:=S4 ss (m:=data.length-16) (by omega) cd;have sbk:=SW ss rfl (k:=data.length-16) (by omega) cs (cd-(data.length-16));have lfr:(data.take (data.length-16)).length=data.length-16:=by rw[List.length_take];omega
   have Zgb:((data.length-16:Nat):Int)≤cd:=by omega
   have Zon:((data.length-16:Nat):Int)≤data.length:=by omega
   simp -implicitDefEqProofs only[go_sem,↓reduceIte,e,n1,n0];refine VS.w (h.size) [] (.q 0 (.q 1 (.q 2 (.q 3 (.q 4 (.q 5 (.q 7 (.q 8 (.q 9 (.s 6 (.s 10 (.q 11 .nil)))))))))))) mixed (by kernel_rfl) ?_;simp -implicitDefEqProofs only[go_sem,↓reduceIte,Zgb,Zon,Int.toNat_natCast,Q7,Gl];refine (Mu T _ _ _ _ _ key Zs known (data.take (data.length-16)) sk sn sw sfr hk hn hw (by omega) ck cn).use ?_;rintro v1 h1 ⟨o1,b1⟩;have l1:(QR key Zs known (data.take (data.length-16))).length≤16:=Ly _ _;simp -implicitDefEqProofs only[go_sem,↓reduceIte,b1];refine (Ft T _ _ _ _ _ o1.bs (sbk.Z3 b1) (by omega)).pure ?_;obtain⟨S,hS⟩:=Zy (QR key Zs known (data.take (data.length-16)));rw[←hS]at pK ⊢;by_cases ht:S=data.drop (data.length-16)
   ·rw[if_neg (by simp[ht])]at pK;rw[pK,if_pos rfl];have ht':decide (S=data.drop (data.length-16))=true:=decide_eq_true ht;simp -implicitDefEqProofs only[go_sem,↓reduceIte,b1,ht',Zgb,Q7,Gl];refine (oS T _ _ _ _ key Zs (data.take (data.length-16)) 1 (sk.Z3 b1) (sn.Z3 b1) (sfr.Z3 b1) ck cn).use ?_;rintro _ h2 ⟨⟨w2,rfl,o2⟩,b2⟩;have e2:=Mw (k:=1) hk hn (by decide) (by decide) (show (data.take (data.length-16)).length≤2000 by omega);rw[e2,if_pos rfl]at o2;rw[e2];have o2:Z0 h1.size 5 h2 w2 (pJ key Zs data):=o2;simp -implicitDefEqProofs only[go_sem,↓reduceIte];exact⟨⟨_,rfl,o2.mono b1.size⟩,b1.trans (b2.mono b1.size)⟩
   ·rw[if_pos ht]at pK;rw[pK];have ht':decide (S=data.drop (data.length-16))=false:=decide_eq_false ht;simp -implicitDefEqProofs only[go_sem,↓reduceIte,b1,ht'];exact⟨_,rfl,Z0.nil _ _ _⟩
 ·have e1:=Mv e;rw[if_pos e]at pK;rw[pK];simp -implicitDefEqProofs only[go_sem,↓reduceIte,e1];exact⟨_,rfl,Z0.nil _ _ _⟩
def YZ (n:Nat):List Nat:=[n/16777216%256,n/65536%256,n/256%256,n%256]
theorem aM (n:Nat):∀x∈YZ n,x<256:=by
 intro x hx;simp only[YZ,List.mem_cons,List.not_mem_nil,or_false]at hx;omega
theorem KO (n k:Nat) (hk:k≤64):YT .i64 (n:Int) (k:Int)=((n/2 ^ k:Nat):Int):=by
 rw[SP .i64 n k hk,Nat.shiftRight_eq_div_pow]
theorem D6 (T:World) (h:Hp) (n:Nat) (hn:n≤1073741824) :
  Zc Tryz.prog T 81 #[.int .i64 n] h fun v' h'=>Z0 h.size 5 h' v' (YZ n)∧Zg h.size h h':=by
 refine Zc.Zj (args:=[_]) Tryz.func81 rfl rfl rfl rfl ?_;have e1:YT .i64 (n:Int) 24%256=((n/16777216%256:Nat):Int):=by rw[show (24:Int)=((24:Nat):Int) from rfl,KO n 24 (by omega)];omega
 have e2:YT .i64 (n:Int) 16%256=((n/65536%256:Nat):Int):=by rw[show (16:Int)=((16:Nat):Int) from rfl,KO n 16 (by omega)];omega
 have e3:YT .i64 (n:Int) 8%256=((n/256%256:Nat):Int):=by rw[show (8:Int)=((8:Nat):Int) from rfl,KO n 8 (by omega)];omega
 have e4:(n:Int)%256=((n%256:Nat):Int):=by omega
 simp -implicitDefEqProofs only[go_sem,↓reduceIte,e1,e2,e3,e4];exact Z0.made (l:=YZ n) (aM n) (Nat.le_refl _)
def Jf (l:List Nat):List Nat:=List.replicate 8 0++l
theorem ZbQ:(XZ 12 [Value.int .u8 0])=(List.replicate 12 0).map bv:=rfl
theorem OE (T:World) (h:Hp) (v:Value) (l:List Nat) (s:Bs h v l) (hl:l.length≤1000) :
  Zc Tryz.prog T 83 #[v] h fun v' h'=>Z0 h.size 5 h' v' (Jf l)∧Zg h.size h h':=by
 refine Zc.Zj (args:=[_]) Tryz.func83 rfl rfl rfl rfl ?_;simp -implicitDefEqProofs only[go_sem,↓reduceIte,ZbQ];have o1:Z0 h.size 5 (h.push (.cells ((List.replicate 12 0).map bv).toArray 5)) (.slice (some ⟨h.size,0,none⟩) 8 12) (List.replicate 8 0):=by
  refine⟨.inr ⟨h.size,12,(List.replicate 4 0).map bv,Nat.le_refl _,rfl,?_,by simp,by simp,by simp⟩,fun x hx=>by rw[List.eq_of_mem_replicate hx];decide⟩;rw[Zb,←List.map_append];rfl
 refine Zv (E:=5) (B:=h.size) YA Tryz.underlying48 Wi WY WX o1 (by simp) (s.Z3 (Zg.push (Nat.le_refl _) _)) (by simp;omega) ?_;intro v' h' RS XU _;simp -implicitDefEqProofs only[go_sem,↓reduceIte];exact⟨RS,(Zg.push (Nat.le_refl _) _).trans XU⟩
def Vg (n:Nat) (ZK top:Int) (s:List Bool) (m:Nat):Int:=if Xq n ZK top s≠0 then 5 else if 2000<m then 1 else if ZK=1073741824 then 8 else 0
def Jg:List Bool:=[false,false,false,false,false,false,false,false]
def aN (kl:List Nat) (n:Nat) (plain:List Nat):List Nat:=YZ n++Gk kl (Jf (YZ n)) (YZ n) plain
def eu (B:Nat) (h':Hp) (cw:Value) (e:Int) (kl:List Nat) (ZK top:Int) (s:List Bool):Prop:=Fv B h' cw (if e=0 then kl else []) (if e=0 then ZK else 0) (if e=0 then top else 0) (if e=0 then s else Jg)
def FO (B:Nat) (h':Hp) (v':Value) (kl:List Nat) (ZK top:Int) (s:List Bool) (plain:List Nat):Prop:=∃cw w,v'=.tuple [cw,w,.int .i64 (Vg kl.length ZK top s plain.length)].toArray ∧
 eu B h' cw (Vg kl.length ZK top s plain.length) kl (ZK+1) top s∧Z0 B 5 h' w (if Vg kl.length ZK top s plain.length=0 then aN kl ZK.toNat plain else [])
theorem OF (n:Nat) (ZK top:Int) (s:List Bool):Xq n ZK top s=0∨Xq n ZK top s=5:=by
 unfold Xq
 repeat' split
 all_goals simp
theorem OG {n:Nat} {ZK top:Int} {s:List Bool} (e:Xq n ZK top s=0):n=32∧0≤ZK∧ZK≤1073741824∧0≤top∧top≤1073741824:=by
 unfold Xq at e;split at e
 ·cases e
 ·omega
theorem wrZ {G:Hp} {b:Nat} (hx:G[b]? = some (.cells Uu.toArray 150)) {w:List Value} (h11:w.length=11) (h1:w.all Z6=true):wr G ⟨b,0,none⟩ w=some (G.setIfInBounds b (.cells w.toArray 150)):=by
 rw[ZU hx 0 w,ZH (by rw[h11];rfl),if_pos ⟨by rw[h11];exact Nat.le_refl _,h1⟩]
set_option maxHeartbeats 1000000 in
theorem D7 (T:World) (h:Hp) (k u:Value) (kl plain:List Nat) (ZK top:Int) (s:List Bool) (hs:s.length=8) (sk:Bs h k kl) (sp:Bs h u plain) (ck:Tu k) :
  Zc Tryz.prog T 58 #[.agg (ZS k ZK top s).toArray,u] h fun v' h'=>FO h.size h' v' kl ZK top s plain∧Zg h.size h h':=by
 obtain⟨p,c,rfl,_⟩:=sk.open;obtain⟨q,d,rfl,_⟩:=sp.open;have WD:=Yd (.slice p kl.length c) ZK top s hs;have tk:=YU WD;refine Zc.XK (args:=[_,_]) Tryz.func58 rfl rfl rfl rfl ?_;simp -implicitDefEqProofs only[go_sem,↓reduceIte,WD,tk];have VX:Zg h.size h ((h.push (.cells (ZS (.slice p kl.length c) ZK top s).toArray 150)).push (.cells Uu.toArray 150)):=by (repeat' (first|exact Zg.refl _ _|assumption|refine Zg.add ?_ _|refine Zg.Zk ?_ (by first|omega|(simp;omega)) _|refine Zg.trans (by assumption) ?_))
 refine (Oh T _ p kl.length c ZK top s hs).use ?_;rintro _ g1 ⟨rfl,b1⟩;have x0:g1[h.size]? = some (.cells (ZS (.slice p kl.length c) ZK top s).toArray 150):=b1.get (by simp only[Array.size_push];omega) (by simp only[Array.getElem?_push,Array.size_push,IntWalk.iteOmega,↓reduceIte]);have x1:g1[h.size+1]? = some (.cells Uu.toArray 150):=b1.get (by simp only[Array.size_push];omega) (by simp only[Array.getElem?_push,Array.size_push,IntWalk.iteOmega,↓reduceIte];rfl);have Uk:Zg h.size h g1:=VX.trans (b1.mono (by simp;omega));have z1:=Za x1;clear b1 VX;have TW:Vg kl.length ZK top s plain.length=if Xq kl.length ZK top s≠0 then 5 else if 2000<plain.length then 1 else if ZK=1073741824 then 8 else 0:=rfl
 unfold FO eu;obtain⟨E,hE⟩:=Zy (Vg kl.length ZK top s plain.length);rw[←hE]at TW ⊢;have wz:=wrZ x1 (w:=[.slice none 0 0,.int .i64 0,.int .i64 0,.bool false,.bool false,.bool false,.bool false,.bool false,.bool false,.bool false,.bool false]) rfl rfl;have tP:Zg h.size h (g1.setIfInBounds (h.size+1) (.cells #[.slice none 0 0,.int .i64 0,.int .i64 0,.bool false,.bool false,.bool false,.bool false,.bool false,.bool false,.bool false,.bool false] 150)):=Uk.Zk (by omega) _;by_cases e0:Xq kl.length ZK top s=0
 ·obtain⟨hk,s0,s1,t0,t1⟩:=OG e0;rw[if_neg (by simp[e0])]at TW;by_cases hm:2000<plain.length
  ·rw[if_pos hm]at TW;have Lj:2000<(plain.length:Int):=by omega
   simp -implicitDefEqProofs only[go_sem,↓reduceIte,e0,Lj,wz,z1];exact⟨⟨_,_,by rw[TW];rfl,⟨_,rfl,Z0.nil _ _ _⟩,Z0.nil _ _ _⟩,tP⟩
  ·rw[if_neg hm]at TW;have Lj:¬2000<(plain.length:Int):=by omega
   have y1:V.hc g1 ⟨h.size,1,none⟩=some (.int .i64 ZK):=by rw[Zh x0];rfl
   have y0:V.hc g1 ⟨h.size,0,none⟩=some (.slice p kl.length c):=by rw[Zh x0];rfl
   by_cases hf:ZK=1073741824
   ·rw[if_pos hf]at TW;have hf':(ZK=1073741824)=True:=eq_true hf;simp -implicitDefEqProofs only[go_sem,↓reduceIte,e0,Lj,y1,hf',wz,z1];exact⟨⟨_,_,by rw[TW];rfl,⟨_,rfl,Z0.nil _ _ _⟩,Z0.nil _ _ _⟩,tP⟩
   ·rw[if_neg hf]at TW;rw[TW];obtain⟨n,rfl⟩:∃n:Nat,ZK=n:=⟨ZK.toNat,by omega⟩
    rw[Int.toNat_natCast];simp -implicitDefEqProofs only[go_sem,↓reduceIte,e0,Lj,y1,hf];refine (D6 T _ n (by omega)).use ?_;rintro vh g2 ⟨oh,b2⟩;have z2:=b2.size;have x0':=b2.get (by omega) x0;have zH:=b2.get (by omega) x1;have y0':V.hc g2 ⟨h.size,0,none⟩=some (.slice p kl.length c):=by rw[Zh x0'];rfl
    have T8:=Uk.trans (b2.mono Uk.size);have Nl:h.size<g2.size:=by omega
    simp -implicitDefEqProofs only[go_sem,↓reduceIte];refine VS.w (g2.size) [] (.q 0 (.q 1 (.q 2 (.q 4 (.q 5 (.s 3 (.s 6 (.q 7 (.q 8 (.q 9 (.q 10 (.q 11 .nil)))))))))))) mixed (by kernel_rfl) ?_;simp -implicitDefEqProofs only[go_sem,↓reduceIte,y0',Nl];refine (OE T _ _ _ oh.bs (by simp[YZ])).use ?_;rintro vn g3 ⟨on,b3⟩;have z3:=b3.size;have b3T:Zg g2.size g2 g3=True:=eq_true b3;simp -implicitDefEqProofs only[go_sem,↓reduceIte,b3T];refine (vV T _ _ _ _ _ kl (Jf (YZ n)) (YZ n) plain ((sk.Z3 T8).Z3 b3) on.bs (oh.bs.Z3 b3) ((sp.Z3 T8).Z3 b3) ck on.cap).use ?_;rintro _ g4 ⟨⟨w4,rfl,o4⟩,b4⟩;have z4:=b4.size;have eS:Je kl.length (Jf (YZ n)).length (YZ n).length plain.length 2000=0:=by
     unfold Je Jf YZ;rw[if_neg];simp;omega
    rw[eS,if_pos rfl]at o4;rw[eS];have Bx:Zg g2.size g2 g4:=b3.trans (b4.mono z3);have pL:Zg g2.size g2 g4=True:=eq_true Bx;have Zop:=Bx.get (by omega) x0';have Zoq:=Bx.get (by omega) zH;have dR:=T8.trans (Bx.mono T8.size);have rC:rd g4 ⟨h.size,0,none⟩ 11=some (ZS (.slice p kl.length c) n top s):=Zq Zop WD;simp -implicitDefEqProofs only[go_sem,↓reduceIte,pL,rC];refine (nZ T _ _ kl n top s hs (sk.Z3 dR) (by omega)).use ?_;rintro _ g5 ⟨⟨w5,rfl,o5⟩,b5⟩;have z5:=b5.size;obtain⟨pw,cw,rfl,_⟩:=o5.open;have Zgd:=b5.get (by omega) Zoq;have M7:=Yd (.slice pw kl.length cw) n top s hs;have dX:=YU M7;have oD:=QA (p:=pw) (n:=kl.length) (c:=cw) n top s;have lpD:∀v,Yw [v,.int .i64 0,.int .i64 0,.bool false,.bool false,.bool false,.bool false,.bool false,.bool false,.bool false,.bool false] 0 (ZS (.slice pw kl.length cw) n top s)=ZS (.slice pw kl.length cw) n top s:=fun v=>ZH M7;have nD:nth (ZS (.slice pw kl.length cw) n top s) 1=some (.int .i64 n):=rfl;have e1:(n:Int)+1=((n+1:Nat):Int):=rfl;have sD:(ZS (.slice pw kl.length cw) n top s).set 1 (.int .i64 ((n+1:Nat):Int))=ZS (.slice pw kl.length cw) ((n+1:Nat):Int) top s:=rfl;have Gm:=Yd (.slice pw kl.length cw) ((n+1:Nat):Int) top s hs;have Zge:=YU Gm;have oD':=QA (p:=pw) (n:=kl.length) (c:=cw) ((n+1:Nat):Int) top s;simp -implicitDefEqProofs only[go_sem,↓reduceIte,M7,dX,oD,lpD,nD,e1,sD];have rJ:rd (g5.push (.cells (ZS (.slice pw kl.length cw) ((n+1:Nat):Int) top s).toArray 150)) ⟨g5.size,0,none⟩ 11=some (ZS (.slice pw kl.length cw) ((n+1:Nat):Int) top s):=Zq Zb Gm;have xJ:(g5.push (.cells (ZS (.slice pw kl.length cw) ((n+1:Nat):Int) top s).toArray 150))[g5.size]? = some (.cells (ZS (.slice pw kl.length cw) ((n+1:Nat):Int) top s).toArray 150):=Zb;have xZ:(g5.push (.cells (ZS (.slice pw kl.length cw) ((n+1:Nat):Int) top s).toArray 150))[h.size+1]? = some (.cells Uu.toArray 150):=by rw[Zu (by omega)];exact Zgd
    have hB5:=dR.trans (b5.mono dR.size);have hBJ:Zg h.size h (g5.push (.cells (ZS (.slice pw kl.length cw) ((n+1:Nat):Int) top s).toArray 150)):=hB5.Yg hB5.size _;have ohJ:=(oh.Z3 (Bx.trans (b5.mono (by omega))) (Nat.le_refl _)).push (.cells (ZS (.slice pw kl.length cw) ((n+1:Nat):Int) top s).toArray 150);have owJ:=o5.push (.cells (ZS (.slice pw kl.length cw) ((n+1:Nat):Int) top s).toArray 150);have o4J:=(o4.Z3 b5 (Nat.le_refl _)).push (.cells (ZS (.slice pw kl.length cw) ((n+1:Nat):Int) top s).toArray 150);have zJ:(g5.push (.cells (ZS (.slice pw kl.length cw) ((n+1:Nat):Int) top s).toArray 150)).size=g5.size+1:=by simp
    have ZD:=oh.own.lt;have nF:=oh.own.ZG;have Zgf:=o5.own.ZG;have ZzO:=o5.own.lt;have lS:(Gk kl (Jf (YZ n)) (YZ n) plain).length≤2016:=by
     have l1:=Vc kl 1 (Jf (YZ n)) plain;have l2:(QR kl (Jf (YZ n)) (YZ n) (On kl 1 (Jf (YZ n)) plain)).length≤16:=Ly _ _;unfold Gk;rw[List.length_append];omega
    have lh:(YZ n).length=4:=rfl;obtain⟨J,hJ⟩:=Zy (g5.push (.cells (ZS (.slice pw kl.length cw) ((n+1:Nat):Int) top s).toArray 150));rw[←hJ]at rJ xJ xZ hBJ ohJ owJ o4J zJ ⊢;clear hJ;have key:∀v' h',Z0 g1.size 5 h' v' (YZ n++Gk kl (Jf (YZ n)) (YZ n) plain)→Zg g1.size J h'→Tm (ZO vh) J h' →
      rd h' ⟨g5.size,0,none⟩ 11=some (ZS (.slice pw kl.length cw) ((n+1:Nat):Int) top s)∧wr h' ⟨h.size+1,0,none⟩ (ZS (.slice pw kl.length cw) ((n+1:Nat):Int) top s)=some (h'.setIfInBounds (h.size+1) (.cells (ZS (.slice pw kl.length cw) ((n+1:Nat):Int) top s).toArray 150)) ∧
      (Zg (h.size+1) J h'=True)∧(Zg (h.size+1) J (h'.setIfInBounds (h.size+1) (.cells (ZS (.slice pw kl.length cw) ((n+1:Nat):Int) top s).toArray 150))=True)∧h.size+1<h'.size ∧
      Z0 h.size 5 (h'.setIfInBounds (h.size+1) (.cells (ZS (.slice pw kl.length cw) ((n+1:Nat):Int) top s).toArray 150)) (.slice pw kl.length cw) kl ∧
      Z0 h.size 5 (h'.setIfInBounds (h.size+1) (.cells (ZS (.slice pw kl.length cw) ((n+1:Nat):Int) top s).toArray 150)) v' (aN kl n plain) ∧
      Zg h.size h (h'.setIfInBounds (h.size+1) (.cells (ZS (.slice pw kl.length cw) ((n+1:Nat):Int) top s).toArray 150)):=by
     intro v' h' RS XU RT;have xZ':=XU.get (k:=h.size+1) (by omega) xZ;have xJ':h'[g5.size]? = some (.cells (ZS (.slice pw kl.length cw) ((n+1:Nat):Int) top s).toArray 150):=by
      rw[RT.block g5.size (by omega) (fun e=>by have:=ZD _ e;omega)];exact xJ
     have ow':=owJ.MV RT (fun b hb e=>by have:=Zgf b hb;have:=ZD _ e;omega);have Ff:Zg (h.size+1) J h':=XU.mono (by omega);exact⟨Zq xJ' Gm,wrZ xZ' Gm oD',eq_true Ff,eq_true (Ff.Zk (Nat.le_refl _) _),Za xZ',(ow'.ZQ (by omega) _).mono (by omega),(RS.ZQ (by omega) _).mono (by omega),(hBJ.trans (XU.mono (by omega))).Zk (by omega) _⟩
    refine VS.w (h.size+1) [] (.q 1 (.q 2 (.or 0 (.s 3 (.s 4 (.q 5 (.q 6 .nil)))) (.s 3 (.s 0 (.s 4 (.q 5 (.q 6 .nil)))))))) mixed (by kernel_rfl) ?_;simp -implicitDefEqProofs only[go_sem,↓reduceIte,rJ];refine⟨?_,?_⟩
    ·refine Zv (E:=5) (B:=g1.size) YA Tryz.underlying48 Wi WY WX ohJ (by omega) o4J.bs (by omega) ?_;intro v' h' RS XU RT;obtain⟨k1,k2,k3,k4,k5,k6,k7,k8⟩:=key v' h' RS XU RT;simp -implicitDefEqProofs only[go_sem,↓reduceIte,k1,k2,k3,k4,k5,Gm,Zge];exact⟨⟨_,_,rfl,⟨_,rfl,k6⟩,k7⟩,k8⟩
    ·refine Zv (E:=5) (B:=g1.size) YA Tryz.underlying48 Wi WY WX ohJ (by omega) o4J.bs (by omega) ?_;intro v' h' RS XU RT;obtain⟨k1,k2,k3,k4,k5,k6,k7,k8⟩:=key v' h' RS XU RT;simp -implicitDefEqProofs only[go_sem,↓reduceIte,k1,k2,k3,k4,k5,Gm,Zge];exact⟨⟨_,_,rfl,⟨_,rfl,k6⟩,k7⟩,k8⟩
 ·rw[if_pos e0]at TW;have e5:=(OF kl.length ZK top s).resolve_left e0;simp -implicitDefEqProofs only[go_sem,↓reduceIte,e5,wz,z1];exact⟨⟨_,_,by rw[TW];rfl,⟨_,rfl,Z0.nil _ _ _⟩,Z0.nil _ _ _⟩,tP⟩
def D8 (top:Int) (s:List Bool) (n:Nat):Bool:=decide ((n:Int)<top-8)||(decide ((n:Int)<top)&&s.getD ((n:Int)-(top-8)).toNat false)
theorem ZbR (T:World) (h:Hp) (k:Value) (ZK top:Int) (s:List Bool) (n:Nat) (hs:s.length=8) (t0:0≤top) (t1:top≤1073741824) (hn:n<1073741824) :
  Zc Tryz.prog T 86 #[.agg (ZS k ZK top s).toArray,.int .i64 n] h fun v' h'=>v'=.bool (D8 top s n)∧Zg h.size h h':=by
 have WD:=Yd k ZK top s hs;have tk:=YU WD;have n2:nth (ZS k ZK top s) 2=some (.int .i64 top):=rfl;refine Zc.Zj (args:=[_,_]) Tryz.func86 rfl rfl rfl rfl ?_;unfold D8;by_cases q1:(n:Int)<top-8
 ·have d1:decide ((n:Int)<top-8)=true:=decide_eq_true q1;simp -implicitDefEqProofs only[go_sem,↓reduceIte,WD,tk,n2,q1,d1,Bool.true_or]
 ·have d1:decide ((n:Int)<top-8)=false:=decide_eq_false q1;by_cases q2:(n:Int)<top
  ·have d2:decide ((n:Int)<top)=true:=decide_eq_true q2;obtain⟨i,hi⟩:∃i:Nat,(n:Int)-(top-8)=i:=⟨((n:Int)-(top-8)).toNat,by omega⟩
   have hi8:i<8:=by omega
   have Zou:(i:Int)<8:=by omega
   have n3:nth (ZS k ZK top s) (3+i)=some (.bool (s.getD i false)):=by
    have:=SU s i (by omega);rw[Yj]at this ⊢;rw[←this];show (k :: .int .i64 ZK :: .int .i64 top :: s.map Value.bool)[3+i]? = _;rw[Nat.add_comm];rfl
   simp -implicitDefEqProofs only[go_sem,↓reduceIte,WD,tk,n2,q1,q2,d1,d2,hi,Zou,Int.toNat_natCast,n3,Bool.false_or]
  ·have d2:decide ((n:Int)<top)=false:=decide_eq_false q2;simp -implicitDefEqProofs only[go_sem,↓reduceIte,WD,tk,n2,q1,q2,d1,d2,Bool.false_or]
theorem aO (k:Value) (ZK top:Int) (s t:List Bool) (hs:s.length=8) (ht:t.length=8):Yw (ZS k ZK top s) 3 (t.map Value.bool)=ZS k ZK top t:=by
 have:=Wc [k,.int .i64 ZK,.int .i64 top] (s.map Value.bool) (t.map Value.bool);rw[ZH (by simp[hs,ht])]at this;exact this
set_option maxHeartbeats 1000000 in
theorem vX (T:World) (h:Hp) (k:Value) (kl:List Nat) (ZK top:Int) (s:List Bool) (n:Nat) (hs:s.length=8) (sk:Bs h k kl) (hk:kl.length≤140737488355328) (t0:0≤top) (t1:top≤1073741824) (hn:n<1073741824) (hm:¬(n:Int)<top-8) :
  Zc Tryz.prog T 88 #[.agg (ZS k ZK top s).toArray,.int .i64 n] h fun v' h'=>Fv h.size h' v' kl ZK (max top (n+1)) (XB (Tx top s 8++[(n:Int)]) (max top (n+1)))∧Zg h.size h h':=by
 obtain⟨p,c,rfl,_⟩:=sk.open;have WD:=Yd (.slice p kl.length c) ZK top s hs;have tk:=YU WD;refine Zc.XK (args:=[_,_]) Tryz.func88 rfl rfl rfl rfl ?_;simp -implicitDefEqProofs only[go_sem,↓reduceIte,WD,tk];have VX:Zg h.size h ((h.push (.cells (ZS (.slice p kl.length c) ZK top s).toArray 150)).push (.cells Uu.toArray 150)):=by (repeat' (first|exact Zg.refl _ _|assumption|refine Zg.add ?_ _|refine Zg.Zk ?_ (by first|omega|(simp;omega)) _|refine Zg.trans (by assumption) ?_))
 refine (nZ T _ _ kl ZK top s hs (sk.Z3 VX) hk).use ?_;rintro _ g1 ⟨⟨w,rfl,o1⟩,b1⟩;have x0:g1[h.size]? = some (.cells (ZS (.slice p kl.length c) ZK top s).toArray 150):=b1.get (by simp only[Array.size_push];omega) (by simp only[Array.getElem?_push,Array.size_push,IntWalk.iteOmega,↓reduceIte]);have x1:g1[h.size+1]? = some (.cells Uu.toArray 150):=b1.get (by simp only[Array.size_push];omega) (by simp only[Array.getElem?_push,Array.size_push,IntWalk.iteOmega,↓reduceIte]<;>rfl);have Uk:Zg h.size h g1:=VX.trans (b1.mono (by simp;omega));have z1:=Za x1;simp only[Array.size_push]at o1;obtain⟨pw,cw,rfl,_⟩:=o1.open;clear b1 VX;have y2:V.hc g1 ⟨h.size,2,none⟩=some (.int .i64 top):=by rw[Zh x0];rfl
 have M7:=Yd (.slice pw kl.length cw) ZK top s hs;have dX:=YU M7;have oD:=QA (p:=pw) (n:=kl.length) (c:=cw) ZK top s;have lpD:∀v,Yw [v,.int .i64 0,.int .i64 0,.bool false,.bool false,.bool false,.bool false,.bool false,.bool false,.bool false,.bool false] 0 (ZS (.slice pw kl.length cw) ZK top s)=ZS (.slice pw kl.length cw) ZK top s:=fun v=>ZH M7;have e1:(n:Int)+1=((n+1:Nat):Int):=rfl;obtain⟨TP,hTP⟩:∃TP:Int,TP=max top (n+1):=⟨_,rfl⟩
 have nI:(if ((n+1:Nat):Int)>top then ((n+1:Nat):Int) else top)=TP:=by rw[hTP];split<;>omega
 have sD:(ZS (.slice pw kl.length cw) ZK top s).set 2 (.int .i64 TP)=ZS (.slice pw kl.length cw) ZK TP s:=rfl;have Zov:=Yd (.slice pw kl.length cw) ZK TP s hs;have lE:Yw (ZS (.slice pw kl.length cw) ZK TP s) 3 [.bool false,.bool false,.bool false,.bool false,.bool false,.bool false,.bool false,.bool false]=ZS (.slice pw kl.length cw) ZK TP (XB (Tx top s 0) TP):=aO (.slice pw kl.length cw) ZK TP s Jg hs rfl;have y0r:rd g1 ⟨h.size,3,none⟩ 8=some (s.map Value.bool):=by
  have NX:(s.map Value.bool).length=8:=by rw[List.length_map,hs]
  have:=Z8 x0 (o:=3) (n:=8) (by rw[WD];omega);rw[this];have e:(ZS (.slice p kl.length c) ZK top s).drop 3=s.map Value.bool:=rfl;rw[e,YU NX]
 rw[←hTP];simp -implicitDefEqProofs only[go_sem,↓reduceIte,M7,dX,oD,lpD,y2,e1,nI,sD,Zov,lE,y0r];obtain⟨bo,hbo⟩:∃b,b=g1.size:=⟨_,rfl⟩
 obtain⟨J,hJ⟩:=Zy (g1.push (.cells (ZS (.slice pw kl.length cw) ZK TP (XB (Tx top s 0) TP)).toArray 150));have J5:J[bo]? = some (.cells (ZS (.slice pw kl.length cw) ZK TP (XB (Tx top s 0) TP)).toArray 150):=by rw[hJ,hbo];exact Zb
 have J0:J[h.size]? = some (.cells (ZS (.slice p kl.length c) ZK top s).toArray 150):=by rw[hJ,Zu (by omega)];exact x0
 have J1:J[h.size+1]? = some (.cells Uu.toArray 150):=by rw[hJ,Zu (by omega)];exact x1
 have JB:Zg h.size h J:=by rw[hJ];exact Uk.Yg Uk.size _
 have Jo:Z0 (h.size+1+1) 5 J (.slice pw kl.length cw) kl:=by rw[hJ];exact o1.push _
 have Jlt:∀b,ZO (.slice pw kl.length cw)=some b→b<bo:=fun b hb=>by have:=o1.own.lt b hb;omega
 have Jsz:J.size=bo+1:=by rw[hJ,Array.size_push,hbo]
 rw[←hJ,←hbo];clear hJ;refine VS.ZW (fun F g=>F 1=.int .i64 n∧F 2=.pointer (some ⟨h.size,0,none⟩)∧F 4=.pointer (some ⟨h.size+1,0,none⟩)∧F 5=.pointer (some ⟨bo,0,none⟩)∧F 20=.agg (s.map Value.bool).toArray∧∃i:Nat,i≤8∧F 21=.int .i64 i∧g=J.setIfInBounds bo (.cells (ZS (.slice pw kl.length cw) ZK TP (XB (Tx top s i) TP)).toArray 150))
  (fun F _=>8-(vi (F 21)).toNat) rfl ⟨rfl,rfl,rfl,rfl,rfl,0,by omega,rfl,(Uv J5).symm⟩ ?_
 rintro F g ⟨f1,f2,f4,f5,f20,i,hi,f21,rfl⟩;have hx:=ZT (o:=.cells (ZS (.slice pw kl.length cw) ZK TP (XB (Tx top s i) TP)).toArray 150) J5;have Pc:(J.setIfInBounds bo (.cells (ZS (.slice pw kl.length cw) ZK TP (XB (Tx top s i) TP)).toArray 150))[h.size]? = some (.cells (ZS (.slice p kl.length c) ZK top s).toArray 150):=by rw[Array.getElem?_setIfInBounds,if_neg (by omega)];exact J0
 have sl8:=Vn (Tx top s i) TP;have YV:=gY top s i;obtain⟨SS,hSS⟩:=Zy (XB (Tx top s i) TP);by_cases ZD:i<8
 ·have ZP:(i:Int)<8:=by omega
  rw[←hSS]at hx Pc sl8 ⊢;obtain⟨G,hG⟩:=Zy (J.setIfInBounds bo (.cells (ZS (.slice pw kl.length cw) ZK TP SS).toArray 150));rw[←hG]at hx Pc ⊢;have n1:=SU s i (by omega);have y2:V.hc G ⟨h.size,2,none⟩=some (.int .i64 top):=by rw[Zh Pc];rfl
  have y5:V.hc G ⟨bo,2,none⟩=some (.int .i64 TP):=by rw[Zh hx];rfl
  obtain⟨b,hb⟩:=Zy (s.getD i false);rw[←hb]at n1 YV
  cases b with
  | false=>
   rw[if_neg (by decide),List.append_nil]at YV;simp -implicitDefEqProofs only[go_sem,↓reduceIte,f1,f2,f4,f5,f20,f21,ZP,Int.toNat_natCast,n1,y2,y5];refine⟨⟨f1,f2,f4,f5,f20,i+1,ZD,rfl,?_⟩,?_⟩
   ·rw[YV,hG,hSS]
   ·simp only[vi,Zm,↓reduceIte,f21];omega
  | true=>
   rw[if_pos rfl]at YV;have aD:=Mm (Tx top s i) TP (top-8+(i:Int)) (by omega);rw[←YV,←hSS]at aD;have ex:top-8+(i:Int)-TP+8=top+(i:Int)-TP:=by omega
   rw[ex]at aD;by_cases hk0:0≤top+(i:Int)-TP
   ·rw[if_pos hk0]at aD;obtain⟨j,hj⟩:∃j:Nat,top+(i:Int)-TP=j:=⟨(top+(i:Int)-TP).toNat,by omega⟩
    rw[hj,Int.toNat_natCast]at aD;have hj8:(j:Int)<8:=by omega
    have hj0:(0:Int)≤(j:Int):=by omega
    have ZzT:j<8:=by omega
    have hlen:=Yd (.slice pw kl.length cw) ZK TP SS sl8;have w1:JK G ⟨bo,3+j,none⟩ (.bool true)=some (G.setIfInBounds bo (.cells (ZS (.slice pw kl.length cw) ZK TP (SS.set j true)).toArray 150)):=by
     rw[YD hx,if_pos ⟨by rw[hlen];omega,rfl⟩,Du]
    simp -implicitDefEqProofs only[go_sem,↓reduceIte,f1,f2,f4,f5,f20,f21,ZP,Int.toNat_natCast,n1,y2,y5,hj,hj0,hj8,w1];refine⟨⟨f1,f2,f4,f5,f20,i+1,ZD,rfl,?_⟩,?_⟩
    ·rw[aD,hG,set_set]
    ·simp only[vi,Zm,↓reduceIte,f21];omega
   ·rw[if_neg hk0]at aD;simp -implicitDefEqProofs only[go_sem,↓reduceIte,f1,f2,f4,f5,f20,f21,ZP,Int.toNat_natCast,n1,y2,y5,hk0];refine⟨⟨f1,f2,f4,f5,f20,i+1,ZD,rfl,?_⟩,?_⟩
    ·rw[aD,hG]
    ·simp only[vi,Zm,↓reduceIte,f21];omega
 ·have YK:¬(i:Int)<8:=by omega
  obtain rfl:i=8:=by omega
  have c8:((8:Nat):Int)=8:=rfl;rw[c8]at f21 YK;have aD:=Mm (Tx top s 8) TP (n:Int) (by omega);rw[if_pos (by omega),←hSS]at aD;have QK:(J.setIfInBounds bo (.cells (ZS (.slice pw kl.length cw) ZK TP (XB (Tx top s 8) TP)).toArray 150))[h.size+1]? = some (.cells Uu.toArray 150):=by rw[Array.getElem?_setIfInBounds,if_neg (by omega)];exact J1
  have HB:=JB.Zk (b:=bo) (by omega) (.cells (ZS (.slice pw kl.length cw) ZK TP (XB (Tx top s 8) TP)).toArray 150);have HO:Z0 (h.size+1+1) 5 (J.setIfInBounds bo (.cells (ZS (.slice pw kl.length cw) ZK TP (XB (Tx top s 8) TP)).toArray 150)) (.slice pw kl.length cw) kl:=
   Jo.MV (x:=some bo) ⟨by simp,fun b hb Yv=>by rw[Array.getElem?_setIfInBounds,if_neg (fun e=>Yv (by rw[e]))]⟩ (fun b hb e=>by have:=Jlt b hb;simp at e;omega)
  rw[←hSS]at hx QK HB HO sl8 ⊢;obtain⟨j,hj⟩:∃j:Nat,(n:Int)-(TP-8)=j:=⟨((n:Int)-(TP-8)).toNat,by omega⟩
  have hj2:(n:Int)-TP+8=j:=by omega
  rw[hj2,Int.toNat_natCast]at aD;have hj8:(j:Int)<8:=by omega
  have hlen:=Yd (.slice pw kl.length cw) ZK TP SS sl8;obtain⟨G,hG⟩:=Zy (J.setIfInBounds bo (.cells (ZS (.slice pw kl.length cw) ZK TP SS).toArray 150));rw[←hG]at hx QK HB HO ⊢;have y5:V.hc G ⟨bo,2,none⟩=some (.int .i64 TP):=by rw[Zh hx];rfl
  have w1:JK G ⟨bo,3+j,none⟩ (.bool true)=some (G.setIfInBounds bo (.cells (ZS (.slice pw kl.length cw) ZK TP (SS.set j true)).toArray 150)):=by
   rw[YD hx,if_pos ⟨by rw[hlen];omega,rfl⟩,Du]
  rw[aD];have Zgh:(SS.set j true).length=8:=by rw[List.length_set];exact sl8
  obtain⟨S2,hS2⟩:=Zy (SS.set j true);rw[←hS2]at w1 Zgh ⊢;have ew:=Yd (.slice pw kl.length cw) ZK TP S2 Zgh;have o2:=QA (p:=pw) (n:=kl.length) (c:=cw) ZK TP S2;have tk2:=YU ew;have hxb:=ZT (o:=.cells (ZS (.slice pw kl.length cw) ZK TP S2).toArray 150) hx;have rb:=Zq hxb ew;have Zox:(G.setIfInBounds bo (.cells (ZS (.slice pw kl.length cw) ZK TP S2).toArray 150))[h.size+1]? = some (.cells Uu.toArray 150):=by rw[Array.getElem?_setIfInBounds,if_neg (by omega)];exact QK
  have w2:=wrZ Zox ew o2;have k5:=Za QK;have HO2:Z0 (h.size+1+1) 5 (G.setIfInBounds bo (.cells (ZS (.slice pw kl.length cw) ZK TP S2).toArray 150)) (.slice pw kl.length cw) kl:=
   HO.MV (x:=some bo) ⟨by simp,fun b hb Yv=>by rw[Array.getElem?_setIfInBounds,if_neg (fun e=>Yv (by rw[e]))]⟩ (fun b hb e=>by have:=Jlt b hb;simp at e;omega)
  have HB2:=(HB.Zk (b:=bo) (by omega) (.cells (ZS (.slice pw kl.length cw) ZK TP S2).toArray 150)).Zk (b:=h.size+1) (by omega) (.cells (ZS (.slice pw kl.length cw) ZK TP S2).toArray 150);simp -implicitDefEqProofs only[go_sem,↓reduceIte,f1,f2,f4,f5,f20,f21,YK,y5,hj,hj8,Int.toNat_natCast,w1,rb,w2,ew,tk2,k5];exact⟨⟨_,rfl,(HO2.ZQ (by omega) _).mono (by omega)⟩,HB2⟩
theorem pM {a b c d:Nat} (ha:a<256) (hb:b<256) (hc:c<256) (hd:d<256):Yb .or .i64 (Yb .or .i64 (Yb .or .i64 (YI .i64 (a:Int) 24) (YI .i64 (b:Int) 16)) (YI .i64 (c:Int) 8)) (d:Int)=((16777216*a+65536*b+256*c+d:Nat):Int):=by
 have e1:YI .i64 (a:Int) 24=((a*16777216:Nat):Int):=VQ ha 24 (by omega);have e2:YI .i64 (b:Int) 16=((b*65536:Nat):Int):=VQ hb 16 (by omega);have e3:YI .i64 (c:Int) 8=((c*256:Nat):Int):=VQ hc 8 (by omega);have f1:a*16777216 ||| b*65536=a*16777216+b*65536:=Qa (k:=24) (by omega) (by omega)
 have f2:(a*16777216+b*65536) ||| c*256=a*16777216+b*65536+c*256:=Qa (k:=16) (by omega) (by omega)
 rw[e1,e2,e3,RQ _ _ (by omega) (by omega),f1,RQ _ _ (by omega) (by omega),f2,RQ _ _ (by omega) (by omega),Qa (k:=8) (by omega) (by omega)]
 congr 1;omega
def Vw (l:List Nat):Nat:=16777216*l.getD 0 0+65536*l.getD 1 0+256*l.getD 2 0+l.getD 3 0
theorem aP {l:List Nat} (w:∀x∈l,x<256) (hl:4≤l.length):YZ (Vw l)=l.take 4:=by
 match l,hl with
 | a :: b :: c :: d :: l,_=>
  have h1:=w a (by simp);have h2:=w b (by simp);have h3:=w c (by simp);have h4:=w d (by simp);show [_,_,_,_]=[a,b,c,d]
  have e:Vw (a :: b :: c :: d :: l)=16777216*a+65536*b+256*c+d:=rfl;rw[e]
  congr 1
  ·omega
  ·congr 1
   ·omega
   ·congr 1
    ·omega
    ·congr 1
     omega
theorem ZbU {a b c d:Nat} (ha:a<256) (hb:b<256) (hc:c<256) (hd:d<256):16777216*a+65536*b+256*c+d<4294967296:=by omega
theorem vY (l:List Nat):Vw l=16777216*l.getD 0 0+65536*l.getD 1 0+256*l.getD 2 0+l.getD 3 0:=by unfold Vw;rfl
def UZ (kl:List Nat) (ZK top:Int) (s:List Bool) (rc:List Nat):Int:=
 if Xq kl.length ZK top s≠0 then 5 else if 2020<rc.length then 1 else if rc.length<20 then 13 else if 1073741824≤Vw rc then 2 else
 if D8 top s (Vw rc)=true then 7 else OD kl (Jf (YZ (Vw rc))) (YZ (Vw rc)) (rc.drop 4)
def ey (kl rc:List Nat):List Nat:=pJ kl (Jf (YZ (Vw rc))) (rc.drop 4)
def Mx (top:Int) (s:List Bool) (n:Nat):List Bool:=XB (Tx top s 8++[(n:Int)]) (max top (n+1))
def FP (B:Nat) (h':Hp) (v':Value) (kl:List Nat) (ZK top:Int) (s:List Bool) (rc:List Nat):Prop:=∃cw w,v'=.tuple [cw,w,.int .i64 (UZ kl ZK top s rc)].toArray ∧
 eu B h' cw (UZ kl ZK top s rc) kl ZK (max top (Vw rc+1)) (Mx top s (Vw rc))∧Z0 B 5 h' w (if UZ kl ZK top s rc=0 then ey kl rc else [])
theorem pN {top:Int} {s:List Bool} {n:Nat} (h:¬D8 top s n=true):¬(n:Int)<top-8:=by
 intro ZD;apply h;unfold D8;rw[decide_eq_true ZD];rfl
set_option maxHeartbeats 2000000 in
theorem D9 (T:World) (h:Hp) (k u:Value) (kl rc:List Nat) (ZK top:Int) (s:List Bool) (hs:s.length=8) (sk:Bs h k kl) (sp:Bs h u rc) (ck:Tu k) (cu:Tu u) :
  Zc Tryz.prog T 60 #[.agg (ZS k ZK top s).toArray,u] h fun v' h'=>FP h.size h' v' kl ZK top s rc∧Zg h.size h h':=by
 have tQ:=sp.byte;obtain⟨p,c,rfl,_⟩:=sk.open;obtain⟨q,d,rfl,zO⟩:=sp.UN;have cu:rc.length≤d:=cu;have WD:=Yd (.slice p kl.length c) ZK top s hs;have tk:=YU WD;refine Zc.XK (args:=[_,_]) Tryz.func60 rfl rfl rfl rfl ?_;simp -implicitDefEqProofs only[go_sem,↓reduceIte,WD,tk];have VX:Zg h.size h ((h.push (.cells (ZS (.slice p kl.length c) ZK top s).toArray 150)).push (.cells Uu.toArray 150)):=by (repeat' (first|exact Zg.refl _ _|assumption|refine Zg.add ?_ _|refine Zg.Zk ?_ (by first|omega|(simp;omega)) _|refine Zg.trans (by assumption) ?_))
 refine (Oh T _ p kl.length c ZK top s hs).use ?_;rintro _ g1 ⟨rfl,b1⟩;have x0:g1[h.size]? = some (.cells (ZS (.slice p kl.length c) ZK top s).toArray 150):=b1.get (by simp only[Array.size_push];omega) (by simp only[Array.getElem?_push,Array.size_push,IntWalk.iteOmega,↓reduceIte]);have x1:g1[h.size+1]? = some (.cells Uu.toArray 150):=b1.get (by simp only[Array.size_push];omega) (by simp only[Array.getElem?_push,Array.size_push,IntWalk.iteOmega,↓reduceIte]<;>rfl);have Uk:Zg h.size h g1:=VX.trans (b1.mono (by simp;omega));have z1:=Za x1;clear b1 VX;have TW:UZ kl ZK top s rc=if Xq kl.length ZK top s≠0 then 5 else if 2020<rc.length then 1 else if rc.length<20 then 13 else if 1073741824≤Vw rc then 2 else
 if D8 top s (Vw rc)=true then 7 else OD kl (Jf (YZ (Vw rc))) (YZ (Vw rc)) (rc.drop 4):=rfl
 unfold FP eu ey;have hbe:Vw rc=16777216*rc.getD 0 0+65536*rc.getD 1 0+256*rc.getD 2 0+rc.getD 3 0:=vY rc;have h4:4≤rc.length→YZ (Vw rc)=rc.take 4:=fun hl=>aP tQ hl;obtain⟨E,hE⟩:=Zy (UZ kl ZK top s rc);rw[←hE]at TW ⊢;clear hE;obtain⟨n,hn⟩:=Zy (Vw rc);rw[←hn]at TW hbe h4 ⊢;clear hn;have wz:∀g:Hp,g[h.size+1]? = some (.cells Uu.toArray 150)→wr g ⟨h.size+1,0,none⟩ [.slice none 0 0,.int .i64 0,.int .i64 0,.bool false,.bool false,.bool false,.bool false,.bool false,.bool false,.bool false,.bool false]=some (g.setIfInBounds (h.size+1) (.cells [.slice none 0 0,.int .i64 0,.int .i64 0,.bool false,.bool false,.bool false,.bool false,.bool false,.bool false,.bool false,.bool false].toArray 150)):=fun g hg=>wrZ hg rfl rfl;have tP:∀g:Hp,Zg h.size h g→Zg h.size h (g.setIfInBounds (h.size+1) (.cells #[.slice none 0 0,.int .i64 0,.int .i64 0,.bool false,.bool false,.bool false,.bool false,.bool false,.bool false,.bool false,.bool false] 150)):=fun g hg=>hg.Zk (by omega) _;have wz1:=wz g1 x1;by_cases e0:Xq kl.length ZK top s=0
 ·obtain⟨hk,s0,s1,t0,t1⟩:=OG e0;rw[if_neg (by simp[e0])]at TW;by_cases hm:2020<rc.length
  ·rw[if_pos hm]at TW;have Lj:2020<(rc.length:Int):=by omega
   simp -implicitDefEqProofs only[go_sem,↓reduceIte,e0,Lj,wz1,z1];exact⟨⟨_,_,by rw[TW];rfl,⟨_,rfl,Z0.nil _ _ _⟩,Z0.nil _ _ _⟩,tP _ Uk⟩
  ·rw[if_neg hm]at TW;have Lj:¬2020<(rc.length:Int):=by omega
   by_cases vZ:rc.length<20
   ·rw[if_pos vZ]at TW;have ZbW:(rc.length:Int)<20:=by omega
    simp -implicitDefEqProofs only[go_sem,↓reduceIte,e0,Lj,ZbW,wz1,z1];exact⟨⟨_,_,by rw[TW];rfl,⟨_,rfl,Z0.nil _ _ _⟩,Z0.nil _ _ _⟩,tP _ Uk⟩
   ·rw[if_neg vZ]at TW;have ZbW:¬(rc.length:Int)<20:=by omega
    obtain⟨bb,oo,rfl,Wk,zO⟩:=zO (by intro e;rw[e]at vZ;simp at vZ);have u0:V.hc g1 ⟨bb,oo+0,none⟩=some (.int .u8 (rc.getD 0 0:Nat)):=by rw[Uk.hc (by exact Wk)];exact zO 0 (by omega)
    have u1:V.hc g1 ⟨bb,oo+1,none⟩=some (.int .u8 (rc.getD 1 0:Nat)):=by rw[Uk.hc (by exact Wk)];exact zO 1 (by omega)
    have u2:V.hc g1 ⟨bb,oo+2,none⟩=some (.int .u8 (rc.getD 2 0:Nat)):=by rw[Uk.hc (by exact Wk)];exact zO 2 (by omega)
    have u3:V.hc g1 ⟨bb,oo+3,none⟩=some (.int .u8 (rc.getD 3 0:Nat)):=by rw[Uk.hc (by exact Wk)];exact zO 3 (by omega)
    rw[Nat.add_zero]at u0;have w0:=ZJ tQ 0;have w1:=ZJ tQ 1;have w2:=ZJ tQ 2;have w3:=ZJ tQ 3;have h4:=h4 (by omega);have s4:=S4 sp (m:=4) (by omega) 4;rw[←h4]at s4;generalize rc.getD 0 0=r0 at *;generalize rc.getD 1 0=r1 at *;generalize rc.getD 2 0=r2 at *;generalize rc.getD 3 0=r3 at *;have Zgi:Unit→_:=fun _=>TW;clear TW;have Znw:n<4294967296:=by rw[hbe];exact ZbU w0 w1 w2 w3
    have d4:(4:Int)≤d:=by omega
    have sh:Unit→Yb .or .i64 (Yb .or .i64 (Yb .or .i64 (YI .i64 (r0:Int) 24) (YI .i64 (r1:Int) 16)) (YI .i64 (r2:Int) 8)) (r3:Int)=(n:Int):=fun _=>by rw[pM w0 w1 w2 w3,hbe]
    clear hbe;simp -implicitDefEqProofs only[go_sem,↓reduceIte,e0,Lj,ZbW,d4];refine VS.mono (N:=fun F g=>g1=g∧F 1=.slice (some ⟨bb,oo,none⟩) rc.length d∧F 2=.pointer (some ⟨h.size,0,none⟩)∧F 4=.pointer (some ⟨h.size+1,0,none⟩)∧F 8=.slice (some ⟨bb,oo,none⟩) 4 4∧F 9=.int .i64 n) ?_ ?_ (fun _ _ _ h=>h) (fun _ _ h=>h)
    ·refine VS.q mixed (by kernel_rfl) ?_;simp -implicitDefEqProofs only[go_sem,↓reduceIte,u0,u1,u2,u3];exact congrArg _ (sh ())
    clear sh w0 w1 w2 w3;have TW:=Zgi ();clear Zgi;rintro F _ ⟨rfl,f1,f2,f4,f8,f9⟩;by_cases hb:1073741824≤n
    ·rw[if_pos hb]at TW;have XU:(1073741824:Int)≤(n:Int):=by clear TW;omega
     simp -implicitDefEqProofs only[go_sem,↓reduceIte,f1,f2,f4,f8,f9,XU,wz1,z1];exact⟨⟨_,_,by rw[TW];rfl,⟨_,rfl,Z0.nil _ _ _⟩,Z0.nil _ _ _⟩,tP _ Uk⟩
    ·rw[if_neg hb]at TW;have XU:¬(1073741824:Int)≤(n:Int):=by clear TW;omega
     have rC:rd g1 ⟨h.size,0,none⟩ 11=some (ZS (.slice p kl.length c) ZK top s):=Zq x0 WD;simp -implicitDefEqProofs only[go_sem,↓reduceIte,f1,f2,f4,f8,f9,XU,rC];refine (ZbR T _ _ ZK top s n hs t0 t1 (by clear TW;omega)).use ?_;rintro _ g2 ⟨rfl,b2⟩;have x02:=b2.get (Nat.lt_of_succ_lt z1) x0;have x12:=b2.get z1 x1;have z2:=b2.size;have T8:=Uk.trans (b2.mono Uk.size);have wz2:=wz g2 x12;have zl2:=Za x12;by_cases pO:D8 top s n=true
     ·rw[if_pos pO]at TW;simp -implicitDefEqProofs only[go_sem,↓reduceIte,f1,f2,f4,f8,f9,pO,wz2,zl2];exact⟨⟨_,_,by rw[TW];rfl,⟨_,rfl,Z0.nil _ _ _⟩,Z0.nil _ _ _⟩,tP _ T8⟩
     ·rw[if_neg pO]at TW;have ZfW:=pN pO;have Zgk:D8 top s n=false:=by simpa using pO
      have y0:V.hc g2 ⟨h.size,0,none⟩=some (.slice p kl.length c):=by rw[Zh x02];rfl
      have zl0:=Za x02;have l4:(YZ n).length=4:=rfl;have l12:(Jf (YZ n)).length≤1000:=by simp[Jf,YZ]
      have sbk:=SW sp rfl (k:=4) (by omega) cu (d-4);have Zoy:(4:Int)≤rc.length:=by clear TW;omega
      simp -implicitDefEqProofs only[go_sem,↓reduceIte,f1,f2,f4,f8,f9,Zgk];refine VS.w (g2.size) [] (.q 0 (.q 1 (.q 2 (.q 4 (.q 5 (.q 6 (.s 3 (.s 7 (.q 8 (.q 9 (.q 10 (.q 11 (.q 12 .nil))))))))))))) mixed (by kernel_rfl) ?_;simp -implicitDefEqProofs only[go_sem,↓reduceIte,f1,f2,f4,f8,f9,y0,zl0,Zoy,Q7];refine (OE T _ _ _ (s4.Z3 T8) (by rw[l4];decide)).use ?_;rintro vn g3 ⟨on,b3⟩;have z3:=b3.size;have b3T:Zg g2.size g2 g3=True:=eq_true b3;have hB3:=T8.trans (b3.mono T8.size);simp -implicitDefEqProofs only[go_sem,↓reduceIte,f1,f2,f4,f8,f9,b3T];refine (vW T _ _ _ _ _ kl (Jf (YZ n)) (YZ n) (rc.drop 4) (sk.Z3 hB3) on.bs (s4.Z3 hB3) (sbk.Z3 hB3) ck on.cap (show rc.length-4≤d-4 by omega)).use ?_;rintro _ g4 ⟨⟨w4,rfl,o4⟩,b4⟩;have z4:=b4.size;have Bx:Zg g2.size g2 g4:=b3.trans (b4.mono z3);have pL:Zg g2.size g2 g4=True:=eq_true Bx;rw[←TW]at o4 ⊢;have x14:=Bx.get zl2 x12;have x04:=Bx.get zl0 x02;have dR:=T8.trans (Bx.mono T8.size);have wz4:=wz g4 x14;have zl4:=Za x14;clear TW;by_cases hE0:E=0
      ·subst hE0;rw[if_pos rfl]at o4;have rC4:rd g4 ⟨h.size,0,none⟩ 11=some (ZS (.slice p kl.length c) ZK top s):=Zq x04 WD;simp -implicitDefEqProofs only[go_sem,↓reduceIte,f1,f2,f4,f8,f9,pL,rC4];refine (vX T _ _ kl ZK top s n hs (sk.Z3 dR) (by omega) t0 t1 (by omega) ZfW).use ?_;rintro _ g5 ⟨⟨w5,rfl,o5⟩,b5⟩;have x15:=b5.get zl4 x14;have z5:=b5.size;obtain⟨pw,cw,rfl,_⟩:=o5.open;have l8:(Mx top s n).length=8:=Vn _ _;have M7:=Yd (.slice pw kl.length cw) ZK (max top ((n:Int)+1)) (Mx top s n) l8;have oD:=QA (p:=pw) (n:=kl.length) (c:=cw) ZK (max top ((n:Int)+1)) (Mx top s n);have dX:=YU M7;have wD:=wrZ x15 M7 oD;have zl5:=Za x15;rw[show XB (Tx top s 8++[(n:Int)]) (max top ((n:Int)+1))=Mx top s n from rfl];have o4':=o4.Z3 b5 (Nat.le_refl _);obtain⟨C5,hC5⟩:=Zy (ZS (.slice pw kl.length cw) ZK (max top ((n:Int)+1)) (Mx top s n));rw[←hC5]at M7 oD dX wD ⊢;simp -implicitDefEqProofs only[go_sem,↓reduceIte,f1,f2,f4,f8,f9,pL,wD,M7,dX,zl5];exact⟨⟨_,_,rfl,⟨_,by rw[hC5],(o5.ZQ (by omega) _).mono (by omega)⟩,(o4'.ZQ (by omega) _).mono (by omega)⟩,(dR.trans (b5.mono dR.size)).Zk (by omega) _⟩
      ·rw[if_neg hE0]at o4;simp -implicitDefEqProofs only[go_sem,↓reduceIte,f1,f2,f4,f8,f9,pL,hE0,wz4,zl4];exact⟨⟨_,_,rfl,⟨_,rfl,Z0.nil _ _ _⟩,Z0.nil _ _ _⟩,tP _ dR⟩
 ·rw[if_pos e0]at TW;have e5:=(OF kl.length ZK top s).resolve_left e0;simp -implicitDefEqProofs only[go_sem,↓reduceIte,e5,wz1,z1];exact⟨⟨_,_,by rw[TW];rfl,⟨_,rfl,Z0.nil _ _ _⟩,Z0.nil _ _ _⟩,tP _ Uk⟩
end Go.Proofs.YtboeoomhjbcecaaGreatDoor
