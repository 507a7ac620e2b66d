/- Part Takf. -/
import Derived.Test.YthlfaofofaphfaaGreatDoorPolg
import Derived.Test.YthlfaofofaphfaaGreatDoorMix
import Derived.Test.YthlfaofofaphfaaGreatDoorBytes
import Derived.Test.YthlfaofofaphfaaGreatDoorVst
import Derived.Test.YthlfaofofaphfaaGreatDoorW15
import Derived.Test.YthlfaofofaphfaaGreatDoorLine
import Derived.Test.YthlfaofofaphfaaGreatDoorW13
open Go.Value renaming slice→A,bool→H,int→L,pointer→au
open Go.IntKind renaming i64→D
open Go.Obj renaming cells→K
open Go.Proofs.Tryz renaming underlying28→U,prog→Z
open List renaming length→y,replicate→am,length_append→aw
open Nat renaming le_refl→Q,shiftRight_eq_div_pow→aI
open Int renaming toNat_natCast→W
open Option renaming some→M,none→R
open Array renaming size_push→O,getElem?_setIfInBounds→X,getElem?_push→Y
open Bool renaming false_or→aU
open Go.IntWalk renaming iteOmega→aa
open Go renaming Value→al
namespace Go.Proofs.YthlfaofofaphfaaGreatDoor
open Go Go.V
set_option linter.unusedSimpArgs false
set_option linter.unusedVariables false
set_option maxRecDepth 100000
variable(T:World)
def pW(l:List Nat):List Nat:=l++am ((16-(y l)%16)%16) 0
def aK(n:Nat):List Nat:=(List.range 8).map fun i=>n/256 ^ i%256
def S5(Zi QI:List Nat):List Nat:=pW Zi++pW QI++aK (y Zi)++aK (y QI)
def QA(key ZD Zi QI:List Nat):List Nat:=ii ((Jr key 0 ZD).take 32) (S5 Zi QI)
theorem aL(l:List Nat):(pW l).length=(y l)+(16-(y l)%16)%16:=by simp[pW]
theorem HE(l:List Nat):(pW l).length<=(y l)+15:=by rw[aL];omega
theorem QY(n:Nat):(aK n).length=8:=by simp[aK]
theorem Dr(h:Hp)(v:al)(l:List Nat)(s:Bs h v l)(hl:(y l)<=4000):
  Zd Z T 63 #[v] h fun v' h'=>Yx h.size 5 h' v' (pW l)/\Zk h.size h h':=by
 obtain⟨p,c,rfl,Wr⟩:=s.open;refine Zd.XS [_] Tryz.func63 ?_;simp -implicitDefEqProofs only[go_sem];refine ZK (E:=5) (B:=h.size) Xg U Ti T4 T3 (Yx.nil _ _ _) (Q _) s KQ ?_;intro v1 h1 o1 b1 _;rw[List.nil_append]at o1;have e1:(((y l):Nat):Int).tmod 16=(((y l)%16:Nat):Int):=rfl;have e2:(16:Int)-(((y l)%16:Nat):Int)=((16-(y l)%16:Nat):Int):=nc;have e3:((16-(y l)%16:Nat):Int).tmod 16=(((16-(y l)%16)%16:Nat):Int):=rfl;simp -implicitDefEqProofs only[go_sem,e1,e2,e3];refine Gp (E:=5) (B:=h.size) Xg Tryz.underlying3 Ti T4 T3 o1 b1.size nc ?_;intro v2 h2 o2 b2 _;simp -implicitDefEqProofs only[go_sem];exact⟨o2,b1.trans b2⟩
theorem Ds(h:Hp)(n:Nat)(hn:n<9223372036854775808):
  Zd Z T 64 #[L D n] h fun v' h'=>Yx h.size 5 h' v' (aK n)/\Zk h.size h h':=by
 refine Zd.XS [_] Tryz.func64 ?_;simp -implicitDefEqProofs only[go_sem];refine VS.Yj (fun F g=>Zk h.size h g/\F 0=L D n/\∃j:Nat,j<=8/\F 4=L D (8*j:Nat)/\Yx h.size 5 g (F 3) ((aK n).take j))
  (fun F _=>64-(vi (F 4)).toNat) rfl ⟨Zk.refl _ _,rfl,0,nc,rfl,Yx.nil _ _ _⟩ ?_
 rintro F g ⟨hg,f0,j,hj,f4,ho⟩;have PU:=hg.size;by_cases ZU:j<8
 .have Z8:((8*j:Nat):Int)<64:=nc;have e1:Xx D (n:Int) ((8*j:Nat):Int)=((n/256 ^ j:Nat):Int):=by
   rw[OG D n (8*j) (by show 8*j<=64;omega),aI,Nat.pow_mul]
  have e2:((n/256 ^ j:Nat):Int)%256=((n/256 ^ j%256:Nat):Int):=rfl;have e3:¬((8*j:Nat):Int)<0:=nc;have e4:((8*j:Nat):Int)+8=((8*(j+1):Nat):Int):=nc;simp -implicitDefEqProofs only[go_sem,f0,f4,Z8,e1,e2,e3];have hX:n/256 ^ j%256<256:=Nat.mod_lt _ aaa;refine ZK (E:=5) (B:=h.size) Xg U Ti T4 T3 (ho.push _) KQ (Bs.one hX 1) (by simp[QY];omega) ?_;intro v' h' NM Qa _;simp -implicitDefEqProofs only[go_sem,f0,f4,e4];refine⟨⟨(hg.YU PU _).trans Qa,f0,j+1,ZU,rfl,?_⟩,?_⟩
  .rw[Y2 _ j (by rw[QY];exact ZU)];have e:(aK n)[j]'(by rw[QY];exact ZU)=n/256 ^ j%256:=by simp[aK]
   rw[e];exact NM
  .simp only[vi,Zr,↓reduceIte,f4];omega
 .have Xp:¬((8*j:Nat):Int)<64:=nc;obtain rfl:j=8:=nc;rw[List.take_of_length_le (by rw[QY];exact Q _)]at ho;simp -implicitDefEqProofs only[go_sem,f0,f4,Xp];exact⟨ho,hg⟩
theorem Nv{key ZD:List Nat}{k:Int}(hk:(y key)=32)(hn:(y ZD)=12)(h0:0<=k)(h1:k<=1073741824):JQ key k ZD=0:=by
 unfold JQ;rw[if_neg nc,if_neg nc]
theorem EE(key:List Nat)(k:Nat)(ZD:List Nat):(Jr key k ZD).length=64:=by simp[Jr,Ey]
theorem aM{Zi QI:List Nat}(hk:(y Zi)<=256)(hs:(y QI)<=2000):(S5 Zi QI).length<=2400:=by
 unfold S5;have h1:=HE Zi;have h2:=HE QI;simp only[aw,QY];omega
theorem aN{key data:List Nat}(hk:(y key)=32)(hd:(y data)<=4000):Ss key data=0:=by
 unfold Ss;rw[if_neg nc]
set_option maxHeartbeats 1000000 in
theorem Is(h:Hp)(v u kn sv:al)(key ZD Zi QI:List Nat)(sk:Bs h v key)(sn:Bs h u ZD)(sw:Bs h kn Zi)(ss:Bs h sv QI)(hk:(y key)=32)(hn:(y ZD)=12)(hw:(y Zi)<=256)(hs:(y QI)<=2000)(ck:Ph v)(cn:Ph u):
  Zd Z T 47 #[v,u,kn,sv] h fun v' h'=>Yx h.size 5 h' v' (QA key ZD Zi QI)/\Zk h.size h h':=by
 obtain⟨pw,cw,rfl,_⟩:=sw.open;obtain⟨ps,cs,rfl,_⟩:=ss.open;refine Zd.XS [_,_,_,_] Tryz.func47 ?_;simp -implicitDefEqProofs only[go_sem];refine (xe T _ _ _ key ZD 0 sk sn ck cn).use ?_;rintro _ h1 ⟨⟨w1,rfl,o1⟩,b1⟩;have e0:=Nv (k:=0) hk hn aaa aaa;rw[e0,if_pos rfl]at o1;rw[e0];have o1:Yx h.size 5 h1 w1 (Jr key 0 ZD):=o1;have z1:=b1.size;simp -implicitDefEqProofs only[go_sem];refine (Dr T _ _ Zi (sw.Yy b1) nc).use ?_;rintro v2 h2 ⟨o2,b2⟩;have z2:=b2.size;have B2:=b1.trans (b2.mono z1);simp -implicitDefEqProofs only[go_sem];refine (Dr T _ _ QI (ss.Yy B2) nc).use ?_;rintro v3 h3 ⟨o3,b3⟩;have z3:=b3.size;have B3:=B2.trans (b3.mono nc);have l1:=HE Zi;have l2:=HE QI;simp -implicitDefEqProofs only[go_sem];refine ZK (E:=5) (B:=h1.size) Xg U Ti T4 T3 (o2.Yy b3 (Q _)) nc o3.bs nc ?_;intro v4 h4 o4 b4 _;have z4:=b4.size;simp -implicitDefEqProofs only[go_sem];refine (Ds T _ (y Zi) nc).use ?_;rintro v5 h5 ⟨o5,b5⟩;have z5:=b5.size;simp -implicitDefEqProofs only[go_sem];refine ZK (E:=5) (B:=h1.size) Xg U Ti T4 T3 (o4.Yy b5 (Q _)) nc o5.bs (by simp only[aw,QY];omega) ?_;intro v6 h6 o6 b6 _;have z6:=b6.size;simp -implicitDefEqProofs only[go_sem];refine (Ds T _ (y QI) nc).use ?_;rintro v7 h7 ⟨o7,b7⟩;have z7:=b7.size;simp -implicitDefEqProofs only[go_sem];refine ZK (E:=5) (B:=h1.size) Xg U Ti T4 T3 (o6.Yy b7 (Q _)) nc o7.bs (by simp only[aw,QY];omega) ?_;intro v8 h8 o8 b8 _;have z8:=b8.size;have o8:Yx h1.size 5 h8 v8 (S5 Zi QI):=o8;have B8:Zk h1.size h1 h8:=(((((b2.trans (b3.mono z2)).trans b4).trans (b5.mono nc)).trans b6).trans (b7.mono nc)).trans b8;have o1':=o1.Yy B8 (Q _);have hlb:=EE key 0 ZD;obtain⟨pb,cb,rfl,Cg⟩:=o1'.open;rw[hlb]at Cg o1' ⊢;have s32:=OO o1'.bs (m:=32) nc cb;have c32:(32:Int)<=cb:=nc;have l32:((Jr key 0 ZD).take 32).length=32:=aad;have hd:=aM hw hs;simp -implicitDefEqProofs only[go_sem,c32];refine (aJ T _ _ _ ((Jr key 0 ZD).take 32) (S5 Zi QI) s32 o8.bs (show 32<=cb by omega) o8.cap).use ?_;rintro _ h9 ⟨⟨w9,rfl,o9⟩,b9⟩;have e9:=aN (data:=S5 Zi QI) l32 nc;rw[e9,if_pos rfl]at o9;rw[e9];simp -implicitDefEqProofs only[go_sem];exact⟨o9.mono nc,(b1.trans (B8.mono z1)).trans (b9.mono nc)⟩
def J6(k n w m Su:Nat):Int:=if k≠32\/n≠12\/256<w\/Su<m then 1 else 0
theorem Li{k n w m Su:Nat}(e:J6 k n w m Su=0):k=32/\n=12/\w<=256/\m<=Su:=by
 unfold J6 at e;split at e
 .cases e
 .omega
theorem It{k n w m Su:Nat}(e:¬J6 k n w m Su=0):J6 k n w m Su=1:=by
 unfold J6 at e ⊢;split
 .rfl
 .rename_i h;rw[if_neg h]at e;exact (e rfl).elim
theorem Lj(h:Hp)(p q r s:Option Addr)(k n w m c1 c2 c3 c4 Su:Nat):
  Zd Z T 45 #[A p k c1,A q n c2,A r w c3,A s m c4,L D Su] h fun v' h'=>v'=L D (J6 k n w m Su)/\h'=h:=by
 refine Zd.XS [_,_,_,_,_] Tryz.func45 ?_;unfold J6;by_cases q0:k=32
 ·
  by_cases q1:n=12
  ·
   by_cases q2:w<=256
   ·
    by_cases q3:m<=Su
    ·
     have c0:(k:Int)=32\/¬(k:Int)=32:=nc;have c1:(n:Int)=12\/¬(n:Int)=12:=nc;have c2:256<(w:Int)\/¬256<(w:Int):=nc;have c3:(Su:Int)<(m:Int)\/¬(Su:Int)<(m:Int):=nc;rcases c0 with c0|c0<;>rcases c1 with c1|c1<;>rcases c2 with c2|c2<;>rcases c3 with c3|c3<;>first
      | (exfalso;omega)
      | (rw[if_neg nc];simp -implicitDefEqProofs only[go_sem,c0,c1,c2,c3])
      | (rw[if_pos nc];simp -implicitDefEqProofs only[go_sem,c0,c1,c2,c3])
    ·
     have c0:(k:Int)=32\/¬(k:Int)=32:=nc;have c1:(n:Int)=12\/¬(n:Int)=12:=nc;have c2:256<(w:Int)\/¬256<(w:Int):=nc;have c3:(Su:Int)<(m:Int)\/¬(Su:Int)<(m:Int):=nc;rcases c0 with c0|c0<;>rcases c1 with c1|c1<;>rcases c2 with c2|c2<;>rcases c3 with c3|c3<;>first
      | (exfalso;omega)
      | (rw[if_neg nc];simp -implicitDefEqProofs only[go_sem,c0,c1,c2,c3])
      | (rw[if_pos nc];simp -implicitDefEqProofs only[go_sem,c0,c1,c2,c3])
   ·
    have c0:(k:Int)=32\/¬(k:Int)=32:=nc;have c1:(n:Int)=12\/¬(n:Int)=12:=nc;have c2:256<(w:Int)\/¬256<(w:Int):=nc;have c3:(Su:Int)<(m:Int)\/¬(Su:Int)<(m:Int):=nc;rcases c0 with c0|c0<;>rcases c1 with c1|c1<;>rcases c2 with c2|c2<;>rcases c3 with c3|c3<;>first
     | (exfalso;omega)
     | (rw[if_neg nc];simp -implicitDefEqProofs only[go_sem,c0,c1,c2,c3])
     | (rw[if_pos nc];simp -implicitDefEqProofs only[go_sem,c0,c1,c2,c3])
  ·
   have c0:(k:Int)=32\/¬(k:Int)=32:=nc;have c1:(n:Int)=12\/¬(n:Int)=12:=nc;have c2:256<(w:Int)\/¬256<(w:Int):=nc;have c3:(Su:Int)<(m:Int)\/¬(Su:Int)<(m:Int):=nc;rcases c0 with c0|c0<;>rcases c1 with c1|c1<;>rcases c2 with c2|c2<;>rcases c3 with c3|c3<;>first
    | (exfalso;omega)
    | (rw[if_neg nc];simp -implicitDefEqProofs only[go_sem,c0,c1,c2,c3])
    | (rw[if_pos nc];simp -implicitDefEqProofs only[go_sem,c0,c1,c2,c3])
 ·
  have c0:(k:Int)=32\/¬(k:Int)=32:=nc;have c1:(n:Int)=12\/¬(n:Int)=12:=nc;have c2:256<(w:Int)\/¬256<(w:Int):=nc;have c3:(Su:Int)<(m:Int)\/¬(Su:Int)<(m:Int):=nc;rcases c0 with c0|c0<;>rcases c1 with c1|c1<;>rcases c2 with c2|c2<;>rcases c3 with c3|c3<;>first
   | (exfalso;omega)
   | (rw[if_neg nc];simp -implicitDefEqProofs only[go_sem,c0,c1,c2,c3])
   | (rw[if_pos nc];simp -implicitDefEqProofs only[go_sem,c0,c1,c2,c3])
def S6(key ZD Zi plain:List Nat):List Nat:=U3 key 1 ZD plain++QA key ZD Zi (U3 key 1 ZD plain)
def lJ(B:Nat)(h':Hp)(v':al)(key ZD Zi plain:List Nat):Prop:=∃w,v'=.tuple [w,L D (J6 (y key) (y ZD) (y Zi) (y plain) 2000)].toArray/\Yx B 5 h' w (if J6 (y key) (y ZD) (y Zi) (y plain) 2000=0 then S6 key ZD Zi plain else [])
theorem Iu{key ZD:List Nat}{k:Int}{n:Nat}(hk:(y key)=32)(hn:(y ZD)=12)(h0:0<=k)(h1:k<=1073741824)(hm:n<=2000):So key k ZD n=0:=by
 unfold So;rw[Nv hk hn h0 h1,if_neg Hg,if_neg nc]
theorem HF(key data:List Nat):(ii key data).length<=16:=by rw[Sb];exact Q _
theorem Zcs(h:Hp)(v u kn sv:al)(key ZD Zi plain:List Nat)(sk:Bs h v key)(sn:Bs h u ZD)(sw:Bs h kn Zi)(ss:Bs h sv plain)(ck:Ph v)(cn:Ph u):
  Zd Z T 32 #[v,u,kn,sv] h fun v' h'=>lJ h.size h' v' key ZD Zi plain/\Zk h.size h h':=by
 obtain⟨p,c,rfl,_⟩:=sk.open;obtain⟨q,d,rfl,_⟩:=sn.open;obtain⟨pw,cw,rfl,_⟩:=sw.open;obtain⟨ps,cs,rfl,_⟩:=ss.open;refine Zd.XS [_,_,_,_] Tryz.func32 ?_;unfold lJ;simp -implicitDefEqProofs only[go_sem];refine (Lj T _ _ _ _ _ _ _ _ _ _ _ _ _ 2000).pure ?_;by_cases e:J6 (y key) (y ZD) (y Zi) (y plain) 2000=0
 .obtain⟨hk,hn,hw,hs⟩:=Li e;rw[e,if_pos rfl];simp -implicitDefEqProofs only[go_sem,e];refine (xo T _ _ _ _ key ZD plain 1 sk sn ss ck cn).use ?_;rintro _ h1 ⟨⟨w1,rfl,o1⟩,b1⟩;have e1:=Iu (k:=1) hk hn aaa aaa hs;rw[e1,if_pos rfl]at o1;rw[e1];have o1:Yx h.size 5 h1 w1 (U3 key 1 ZD plain):=o1;have z1:=b1.size;have l1:=Ju key 1 ZD plain;simp -implicitDefEqProofs only[go_sem];refine (Is T _ _ _ _ _ key ZD Zi (U3 key 1 ZD plain) (sk.Yy b1) (sn.Yy b1) (sw.Yy b1) o1.bs hk hn hw nc ck cn).use ?_;rintro v2 h2 ⟨o2,b2⟩;have l2:(QA key ZD Zi (U3 key 1 ZD plain)).length<=16:=HF _ _;have z2:=b2.size;simp -implicitDefEqProofs only[go_sem];refine ZK (E:=5) (B:=h.size) Xg U Ti T4 T3 (o1.Yy b2 (Q _)) nc o2.bs nc ?_;intro v3 h3 o3 b3 _;simp -implicitDefEqProofs only[go_sem];exact⟨⟨_,rfl,o3⟩,(b1.trans (b2.mono z1)).trans b3⟩
 .have e1:=It e;rw[if_neg e];simp -implicitDefEqProofs only[go_sem,e1];exact⟨_,rfl,Yx.nil _ _ _⟩
theorem Dt(a:Option Addr)(c:Nat):gJ a 1 c 0=a:=by
 unfold gJ;split
 .rfl
 .cases a with
  | none=>rfl
  | some a=>simp[Addr.add]
def OQ(key ZD Zi data:List Nat):Int:=if J6 (y key) (y ZD) (y Zi) (y data) 2016≠0 then 1 else if (y data)<16 then 13 else if QA key ZD Zi (data.take ((y data)-16))≠data.drop ((y data)-16) then 6 else 0
def lK(key ZD data:List Nat):List Nat:=U3 key 1 ZD (data.take ((y data)-16))
def lL(B:Nat)(h':Hp)(v':al)(key ZD Zi data:List Nat):Prop:=∃w,v'=.tuple [w,L D (OQ key ZD Zi data)].toArray/\Yx B 5 h' w (if OQ key ZD Zi data=0 then lK key ZD data else [])
theorem Zct(h:Hp)(v u kn sv:al)(key ZD Zi data:List Nat)(sk:Bs h v key)(sn:Bs h u ZD)(sw:Bs h kn Zi)(ss:Bs h sv data)(ck:Ph v)(cn:Ph u)(cs:Ph sv):
  Zd Z T 104 #[v,u,kn,sv] h fun v' h'=>lL h.size h' v' key ZD Zi data/\Zk h.size h h':=by
 obtain⟨p,c,rfl,_⟩:=sk.open;obtain⟨q,d,rfl,_⟩:=sn.open;obtain⟨pw,cw,rfl,_⟩:=sw.open;obtain⟨ps,cd,rfl,_⟩:=ss.open;have cs:(y data)<=cd:=cs;refine Zd.XS [_,_,_,_] Tryz.func104 ?_;unfold lL;simp -implicitDefEqProofs only[go_sem];refine (Lj T _ _ _ _ _ _ _ _ _ _ _ _ _ 2016).pure ?_;have xQ:OQ key ZD Zi data=if J6 (y key) (y ZD) (y Zi) (y data) 2016≠0 then 1 else if (y data)<16 then 13 else if QA key ZD Zi (data.take ((y data)-16))≠data.drop ((y data)-16) then 6 else 0:=rfl
 by_cases e:J6 (y key) (y ZD) (y Zi) (y data) 2016=0
 .obtain⟨hk,hn,hw,hs⟩:=Li e;rw[if_neg (by simp[e])]at xQ;by_cases h16:(y data)<16
  .rw[if_pos h16]at xQ;rw[xQ];have n0:((y data):Int)-16<0:=nc;simp -implicitDefEqProofs only[go_sem,e,n0];exact⟨_,rfl,Yx.nil _ _ _⟩
  .rw[if_neg h16]at xQ;have n0:¬(((y data)-16:Nat):Int)<0:=nc;have n1:((y data):Int)-16=(((y data)-16:Nat):Int):=nc;have sfr:=OO ss (m:=(y data)-16) nc cd;have sbk:=OJ ss rfl (k:=(y data)-16) nc cs (cd-((y data)-16));have lfr:(data.take ((y data)-16)).length=(y data)-16:=aad;have Zk6:(((y data)-16:Nat):Int)<=cd:=nc;have ZsZ:(((y data)-16:Nat):Int)<=(y data):=nc;simp -implicitDefEqProofs only[go_sem,e,n1,n0];refine VS.w (h.size) [] (.q 0 (.q 1 (.q 2 (.q 3 (.q 4 (.q 5 (.q 7 (.q 8 (.q 9 (.s 6 (.s 10 (.q 11 .nil)))))))))))) mixed uf ?_;simp -implicitDefEqProofs only[go_sem,Zk6,ZsZ,W,WC,Dt];refine (Is T _ _ _ _ _ key ZD Zi (data.take ((y data)-16)) sk sn sw sfr hk hn hw nc ck cn).use ?_;rintro v1 h1 ⟨o1,b1⟩;have l1:(QA key ZD Zi (data.take ((y data)-16))).length<=16:=HF _ _;simp -implicitDefEqProofs only[go_sem,b1];refine (CM T _ _ _ _ _ o1.bs (sbk.Yy b1) nc).pure ?_;obtain⟨S,hS⟩:=ZQ (QA key ZD Zi (data.take ((y data)-16)));rw[<-hS]at xQ ⊢;by_cases ht:S=data.drop ((y data)-16)
   .rw[if_neg (by simp[ht])]at xQ;rw[xQ,if_pos rfl];have tL:decide (S=data.drop ((y data)-16))=true:=decide_eq_true ht;simp -implicitDefEqProofs only[go_sem,b1,tL,Zk6,WC,Dt];refine (xo T _ _ _ _ key ZD (data.take ((y data)-16)) 1 (sk.Yy b1) (sn.Yy b1) (sfr.Yy b1) ck cn).use ?_;rintro _ h2 ⟨⟨w2,rfl,o2⟩,b2⟩;have e2:=Iu (k:=1) hk hn aaa aaa (show (data.take ((y data)-16)).length<=2000 by omega);rw[e2,if_pos rfl]at o2;rw[e2];have o2:Yx h1.size 5 h2 w2 (lK key ZD data):=o2;simp -implicitDefEqProofs only[go_sem];exact⟨⟨_,rfl,o2.mono b1.size⟩,b1.trans (b2.mono b1.size)⟩
   .rw[if_pos ht]at xQ;rw[xQ];have tL:decide (S=data.drop ((y data)-16))=false:=decide_eq_false ht;simp -implicitDefEqProofs only[go_sem,b1,tL];exact⟨_,rfl,Yx.nil _ _ _⟩
 .have e1:=It e;rw[if_pos e]at xQ;rw[xQ];simp -implicitDefEqProofs only[go_sem,e1];exact⟨_,rfl,Yx.nil _ _ _⟩
def YH(n:Nat):List Nat:=[n/16777216%256,n/65536%256,n/256%256,n%256]
theorem iz(n:Nat):∀x∈YH n,x<256:=by
 intro x hx;simp only[YH,List.mem_cons,List.not_mem_nil,or_false]at hx;omega
theorem GV(n k:Nat)(hk:k<=64):Xx D (n:Int) (k:Int)=((n/2 ^ k:Nat):Int):=by
 rw[OG D n k hk,aI]
theorem aO(h:Hp)(n:Nat)(hn:n<=1073741824):
  Zd Z T 31 #[L D n] h fun v' h'=>Yx h.size 5 h' v' (YH n)/\Zk h.size h h':=by
 refine Zd.XS [_] Tryz.func31 ?_;have e1:Xx D (n:Int) 24%256=((n/16777216%256:Nat):Int):=by rw[show (24:Int)=((24:Nat):Int) from rfl,GV n 24 nc];omega
 have e2:Xx D (n:Int) 16%256=((n/65536%256:Nat):Int):=by rw[show (16:Int)=((16:Nat):Int) from rfl,GV n 16 nc];omega
 have e3:Xx D (n:Int) 8%256=((n/256%256:Nat):Int):=by rw[show (8:Int)=((8:Nat):Int) from rfl,GV n 8 nc];omega
 have e4:(n:Int)%256=((n%256:Nat):Int):=nc;simp -implicitDefEqProofs only[go_sem,e1,e2,e3,e4];exact Yx.made (l:=YH n) (iz n) (Q _)
def XL(l:List Nat):List Nat:=am 8 0++l
theorem Zgt:(Qf 12 [Value.int .u8 0])=(am 12 0).map bv:=rfl
theorem Lk(h:Hp)(v:al)(l:List Nat)(s:Bs h v l)(hl:(y l)<=1000):
  Zd Z T 33 #[v] h fun v' h'=>Yx h.size 5 h' v' (XL l)/\Zk h.size h h':=by
 refine Zd.XS [_] Tryz.func33 ?_;simp -implicitDefEqProofs only[go_sem,Zgt];have o1:Yx h.size 5 (h.push (K ((am 12 0).map bv).toArray 5)) (A (M ⟨h.size,0,R⟩) 8 12) (am 8 0):=by
  refine⟨.inr ⟨h.size,12,(am 4 0).map bv,Q _,rfl,?_,Hg,Hg,Hg⟩,fun x hx=>by rw[List.eq_of_mem_replicate hx];decide⟩;rw[Zc,<-List.map_append];rfl
 refine ZK (E:=5) (B:=h.size) Xg U Ti T4 T3 o1 Hg (s.Yy (Zk.push (Q _) _)) KQ ?_;intro v' h' NM Qa _;simp -implicitDefEqProofs only[go_sem];exact⟨NM,(Zk.push (Q _) _).trans Qa⟩
def Sd(n:Nat)(Z0 Z4:Int)(s:List Bool)(m:Nat):Int:=if Jc n Z0 Z4 s≠0 then 5 else if 2000<m then 1 else if Z0=1073741824 then 8 else 0
def JK:List Bool:=[false,false,false,false,false,false,false,false]
def Tp(kl:List Nat)(n:Nat)(plain:List Nat):List Nat:=YH n++S6 kl (XL (YH n)) (YH n) plain
def lP(B:Nat)(h':Hp)(cw:al)(e:Int)(kl:List Nat)(Z0 Z4:Int)(s:List Bool):Prop:=CQ B h' cw (if e=0 then kl else []) (if e=0 then Z0 else 0) (if e=0 then Z4 else 0) (if e=0 then s else JK)
def Be(B:Nat)(h':Hp)(v':al)(kl:List Nat)(Z0 Z4:Int)(s:List Bool)(plain:List Nat):Prop:=∃cw w,v'=.tuple [cw,w,L D (Sd (y kl) Z0 Z4 s (y plain))].toArray /\
 lP B h' cw (Sd (y kl) Z0 Z4 s (y plain)) kl (Z0+1) Z4 s/\Yx B 5 h' w (if Sd (y kl) Z0 Z4 s (y plain)=0 then Tp kl Z0.toNat plain else [])
theorem Ll(n:Nat)(Z0 Z4:Int)(s:List Bool):Jc n Z0 Z4 s=0\/Jc n Z0 Z4 s=5:=by
 unfold Jc
 repeat' split
 all_goals simp
theorem Lm{n:Nat}{Z0 Z4:Int}{s:List Bool}(e:Jc n Z0 Z4 s=0):n=32/\0<=Z0/\Z0<=1073741824/\0<=Z4/\Z4<=1073741824:=by
 unfold Jc at e;split at e
 .cases e
 .omega
theorem wrZ{G:Hp}{b:Nat}(hx:G[b]? = M (K Vc.toArray 66)){w:List al}(h11:(y w)=11)(h1:w.all YC=true):wr G ⟨b,0,R⟩ w=M (G.setIfInBounds b (K w.toArray 66)):=by
 rw[Ye hx 0 w,Z3 (by rw[h11];rfl),if_pos ⟨by rw[h11];exact Q _,h1⟩]
set_option maxHeartbeats 1000000 in
theorem aP(h:Hp)(k u:al)(kl plain:List Nat)(Z0 Z4:Int)(s:List Bool)(hs:(y s)=8)(sk:Bs h k kl)(sp:Bs h u plain)(ck:Ph k):
  Zd Z T 18 #[.agg (Yc k Z0 Z4 s).toArray,u] h fun v' h'=>Be h.size h' v' kl Z0 Z4 s plain/\Zk h.size h h':=by
 obtain⟨p,c,rfl,_⟩:=sk.open;obtain⟨q,d,rfl,_⟩:=sp.open;have TG:=YN (A p (y kl) c) Z0 Z4 s hs;have tk:=Xy TG;refine Zd.MQ [_,_] Tryz.func18 ?_;simp -implicitDefEqProofs only[go_sem,TG,tk];have SZ:Zk h.size h ((h.push (K (Yc (A p (y kl) c) Z0 Z4 s).toArray 66)).push (K Vc.toArray 66)):=by (repeat' (first|exact Zk.refl _ _|assumption|refine Zk.add ?_ _|refine Zk.Zt ?_ (by first|omega|(simp;omega)) _|refine Zk.trans (by assumption) ?_))
 refine (MV T _ p (y kl) c Z0 Z4 s hs).use ?_;rintro _ g1 ⟨rfl,b1⟩;have x0:g1[h.size]? = M (K (Yc (A p (y kl) c) Z0 Z4 s).toArray 66):=b1.get (by simp only[O];omega) (by simp only[Y,O,aa,↓reduceIte]);have x1:g1[h.size+1]? = M (K Vc.toArray 66):=b1.get (by simp only[O];omega) (by simp only[Y,O,aa,↓reduceIte];rfl);have WT:Zk h.size h g1:=SZ.trans (b1.mono (by simp;omega));have z1:=Za x1;clear b1 SZ;have Pe:Sd (y kl) Z0 Z4 s (y plain)=if Jc (y kl) Z0 Z4 s≠0 then 5 else if 2000<(y plain) then 1 else if Z0=1073741824 then 8 else 0:=rfl
 unfold Be lP;obtain⟨E,hE⟩:=ZQ (Sd (y kl) Z0 Z4 s (y plain));rw[<-hE]at Pe ⊢;have wz:=wrZ x1 (w:=[A R 0 0,L D 0,L D 0,H false,H false,H false,H false,H false,H false,H false,H false]) rfl rfl;have hBz:Zk h.size h (g1.setIfInBounds (h.size+1) (K #[A R 0 0,L D 0,L D 0,H false,H false,H false,H false,H false,H false,H false,H false] 66)):=WT.Zt (by omega) _;by_cases e0:Jc (y kl) Z0 Z4 s=0
 .obtain⟨hk,s0,s1,t0,t1⟩:=Lm e0;rw[if_neg (by simp[e0])]at Pe;by_cases hm:2000<(y plain)
  .rw[if_pos hm]at Pe;have Hl:2000<((y plain):Int):=by omega
   simp -implicitDefEqProofs only[go_sem,e0,Hl,wz,z1];exact⟨⟨_,_,by rw[Pe];rfl,⟨_,rfl,Yx.nil _ _ _⟩,Yx.nil _ _ _⟩,hBz⟩
  .rw[if_neg hm]at Pe;have Hl:¬2000<((y plain):Int):=by omega
   have y1:V.hc g1 ⟨h.size,1,R⟩=M (L D Z0):=by rw[Zn x0];rfl
   have y0:V.hc g1 ⟨h.size,0,R⟩=M (A p (y kl) c):=by rw[Zn x0];rfl
   by_cases hf:Z0=1073741824
   .rw[if_pos hf]at Pe;have hf':(Z0=1073741824)=True:=eq_true hf;simp -implicitDefEqProofs only[go_sem,e0,Hl,y1,hf',wz,z1];exact⟨⟨_,_,by rw[Pe];rfl,⟨_,rfl,Yx.nil _ _ _⟩,Yx.nil _ _ _⟩,hBz⟩
   .rw[if_neg hf]at Pe;rw[Pe];obtain⟨n,rfl⟩:∃n:Nat,Z0=n:=⟨Z0.toNat,by omega⟩
    rw[W];simp -implicitDefEqProofs only[go_sem,e0,Hl,y1,hf];refine (aO T _ n (by omega)).use ?_;rintro vh g2 ⟨oh,b2⟩;have z2:=b2.size;have x0':=b2.get (by omega) x0;have x1':=b2.get (by omega) x1;have y0':V.hc g2 ⟨h.size,0,R⟩=M (A p (y kl) c):=by rw[Zn x0'];rfl
    have Py:=WT.trans (b2.mono WT.size);have I6:h.size<g2.size:=by omega
    simp -implicitDefEqProofs only[go_sem];refine VS.w (g2.size) [] (.q 0 (.q 1 (.q 2 (.q 4 (.q 5 (.s 3 (.s 6 (.q 7 (.q 8 (.q 9 (.q 10 (.q 11 .nil)))))))))))) mixed (by kernel_rfl) ?_;simp -implicitDefEqProofs only[go_sem,y0',I6];refine (Lk T _ _ _ oh.bs (by simp[YH])).use ?_;rintro vn g3 ⟨on,b3⟩;have z3:=b3.size;have b3T:Zk g2.size g2 g3=True:=eq_true b3;simp -implicitDefEqProofs only[go_sem,b3T];refine (Zcs T _ _ _ _ _ kl (XL (YH n)) (YH n) plain ((sk.Yy Py).Yy b3) on.bs (oh.bs.Yy b3) ((sp.Yy Py).Yy b3) ck on.cap).use ?_;rintro _ g4 ⟨⟨w4,rfl,o4⟩,b4⟩;have z4:=b4.size;have eS:J6 (y kl) (XL (YH n)).length (YH n).length (y plain) 2000=0:=by
     unfold J6 XL YH;rw[if_neg];simp;omega
    rw[eS,if_pos rfl]at o4;rw[eS];have d7:Zk g2.size g2 g4:=b3.trans (b4.mono z3);have xS:Zk g2.size g2 g4=True:=eq_true d7;have Zs0:=d7.get (by omega) x0';have Zs1:=d7.get (by omega) x1';have lu:=Py.trans (d7.mono Py.size);have rC:rd g4 ⟨h.size,0,R⟩ 11=M (Yc (A p (y kl) c) n Z4 s):=Zy Zs0 TG;simp -implicitDefEqProofs only[go_sem,xS,rC];refine (wy T _ _ kl n Z4 s hs (sk.Yy lu) (by omega)).use ?_;rintro _ g5 ⟨⟨w5,rfl,o5⟩,b5⟩;have z5:=b5.size;obtain⟨pw,cw,rfl,_⟩:=o5.open;have Zk8:=b5.get (by omega) Zs1;have I8:=YN (A pw (y kl) cw) n Z4 s hs;have pI:=Xy I8;have oD:=UQ (p:=pw) (n:=(y kl)) (c:=cw) n Z4 s;have lpD:∀v,Y9 [v,L D 0,L D 0,H false,H false,H false,H false,H false,H false,H false,H false] 0 (Yc (A pw (y kl) cw) n Z4 s)=Yc (A pw (y kl) cw) n Z4 s:=fun v=>Z3 I8;have nD:nth (Yc (A pw (y kl) cw) n Z4 s) 1=M (L D n):=rfl;have e1:(n:Int)+1=((n+1:Nat):Int):=rfl;have sD:(Yc (A pw (y kl) cw) n Z4 s).set 1 (L D ((n+1:Nat):Int))=Yc (A pw (y kl) cw) ((n+1:Nat):Int) Z4 s:=rfl;have Du:=YN (A pw (y kl) cw) ((n+1:Nat):Int) Z4 s hs;have Zk9:=Xy Du;have oD':=UQ (p:=pw) (n:=(y kl)) (c:=cw) ((n+1:Nat):Int) Z4 s;simp -implicitDefEqProofs only[go_sem,I8,pI,oD,lpD,nD,e1,sD];have rJ:rd (g5.push (K (Yc (A pw (y kl) cw) ((n+1:Nat):Int) Z4 s).toArray 66)) ⟨g5.size,0,R⟩ 11=M (Yc (A pw (y kl) cw) ((n+1:Nat):Int) Z4 s):=Zy Zc Du;have xJ:(g5.push (K (Yc (A pw (y kl) cw) ((n+1:Nat):Int) Z4 s).toArray 66))[g5.size]? = M (K (Yc (A pw (y kl) cw) ((n+1:Nat):Int) Z4 s).toArray 66):=Zc;have xZ:(g5.push (K (Yc (A pw (y kl) cw) ((n+1:Nat):Int) Z4 s).toArray 66))[h.size+1]? = M (K Vc.toArray 66):=by rw[ZJ (by omega)];exact Zk8
    have hB5:=lu.trans (b5.mono lu.size);have hBJ:Zk h.size h (g5.push (K (Yc (A pw (y kl) cw) ((n+1:Nat):Int) Z4 s).toArray 66)):=hB5.YU hB5.size _;have ohJ:=(oh.Yy (d7.trans (b5.mono (by omega))) (Q _)).push (K (Yc (A pw (y kl) cw) ((n+1:Nat):Int) Z4 s).toArray 66);have owJ:=o5.push (K (Yc (A pw (y kl) cw) ((n+1:Nat):Int) Z4 s).toArray 66);have o4J:=(o4.Yy b5 (Q _)).push (K (Yc (A pw (y kl) cw) ((n+1:Nat):Int) Z4 s).toArray 66);have zJ:(g5.push (K (Yc (A pw (y kl) cw) ((n+1:Nat):Int) Z4 s).toArray 66)).size=g5.size+1:=by simp
    have ZU:=oh.Zq.lt;have vK:=oh.Zq.ZX;have Zla:=o5.Zq.ZX;have ZEQ:=o5.Zq.lt;have lS:(S6 kl (XL (YH n)) (YH n) plain).length<=2016:=by
     have l1:=Ju kl 1 (XL (YH n)) plain;have l2:(QA kl (XL (YH n)) (YH n) (U3 kl 1 (XL (YH n)) plain)).length<=16:=HF _ _;unfold S6;rw[aw];omega
    have lh:(YH n).length=4:=rfl;obtain⟨J,hJ⟩:=ZQ (g5.push (K (Yc (A pw (y kl) cw) ((n+1:Nat):Int) Z4 s).toArray 66));rw[<-hJ]at rJ xJ xZ hBJ ohJ owJ o4J zJ ⊢;clear hJ;have key:∀v' h',Yx g1.size 5 h' v' (YH n++S6 kl (XL (YH n)) (YH n) plain)->Zk g1.size J h'->Rt (Yf vh) J h' ->
      rd h' ⟨g5.size,0,R⟩ 11=M (Yc (A pw (y kl) cw) ((n+1:Nat):Int) Z4 s)/\wr h' ⟨h.size+1,0,R⟩ (Yc (A pw (y kl) cw) ((n+1:Nat):Int) Z4 s)=M (h'.setIfInBounds (h.size+1) (K (Yc (A pw (y kl) cw) ((n+1:Nat):Int) Z4 s).toArray 66)) /\
      (Zk (h.size+1) J h'=True)/\(Zk (h.size+1) J (h'.setIfInBounds (h.size+1) (K (Yc (A pw (y kl) cw) ((n+1:Nat):Int) Z4 s).toArray 66))=True)/\h.size+1<h'.size /\
      Yx h.size 5 (h'.setIfInBounds (h.size+1) (K (Yc (A pw (y kl) cw) ((n+1:Nat):Int) Z4 s).toArray 66)) (A pw (y kl) cw) kl /\
      Yx h.size 5 (h'.setIfInBounds (h.size+1) (K (Yc (A pw (y kl) cw) ((n+1:Nat):Int) Z4 s).toArray 66)) v' (Tp kl n plain) /\
      Zk h.size h (h'.setIfInBounds (h.size+1) (K (Yc (A pw (y kl) cw) ((n+1:Nat):Int) Z4 s).toArray 66)):=by
     intro v' h' NM Qa NN;have xZ':=Qa.get (k:=h.size+1) (by omega) xZ;have xJ':h'[g5.size]? = M (K (Yc (A pw (y kl) cw) ((n+1:Nat):Int) Z4 s).toArray 66):=by
      rw[NN.block g5.size (by omega) (fun e=>by have:=ZU _ e;omega)];exact xJ
     have ow':=owJ.kI NN (fun b hb e=>by have:=Zla b hb;have:=ZU _ e;omega);have Cv:Zk (h.size+1) J h':=Qa.mono (by omega);exact⟨Zy xJ' Du,wrZ xZ' Du oD',eq_true Cv,eq_true (Cv.Zt (Q _) _),Za xZ',(ow'.Ya (by omega) _).mono (by omega),(NM.Ya (by omega) _).mono (by omega),(hBJ.trans (Qa.mono (by omega))).Zt (by omega) _⟩
    refine VS.w (h.size+1) [] (.q 1 (.q 2 (.or 0 (.s 3 (.s 4 (.q 5 (.q 6 .nil)))) (.s 3 (.s 0 (.s 4 (.q 5 (.q 6 .nil)))))))) mixed (by kernel_rfl) ?_;simp -implicitDefEqProofs only[go_sem,rJ];refine⟨?_,?_⟩
    .refine ZK (E:=5) (B:=g1.size) Xg U Ti T4 T3 ohJ (by omega) o4J.bs (by omega) ?_;intro v' h' NM Qa NN;obtain⟨k1,k2,k3,k4,k5,k6,k7,k8⟩:=key v' h' NM Qa NN;simp -implicitDefEqProofs only[go_sem,k1,k2,k3,k4,k5,Du,Zk9];exact⟨⟨_,_,rfl,⟨_,rfl,k6⟩,k7⟩,k8⟩
    .refine ZK (E:=5) (B:=g1.size) Xg U Ti T4 T3 ohJ (by omega) o4J.bs (by omega) ?_;intro v' h' NM Qa NN;obtain⟨k1,k2,k3,k4,k5,k6,k7,k8⟩:=key v' h' NM Qa NN;simp -implicitDefEqProofs only[go_sem,k1,k2,k3,k4,k5,Du,Zk9];exact⟨⟨_,_,rfl,⟨_,rfl,k6⟩,k7⟩,k8⟩
 .rw[if_pos e0]at Pe;have e5:=(Ll (y kl) Z0 Z4 s).resolve_left e0;simp -implicitDefEqProofs only[go_sem,e5,wz,z1];exact⟨⟨_,_,by rw[Pe];rfl,⟨_,rfl,Yx.nil _ _ _⟩,Yx.nil _ _ _⟩,hBz⟩
def EF(Z4:Int)(s:List Bool)(n:Nat):Bool:=decide ((n:Int)<Z4-8)||(decide ((n:Int)<Z4)&&s.getD ((n:Int)-(Z4-8)).toNat false)
theorem Zgu(h:Hp)(k:al)(Z0 Z4:Int)(s:List Bool)(n:Nat)(hs:(y s)=8)(t0:0<=Z4)(t1:Z4<=1073741824)(hn:n<1073741824):
  Zd Z T 103 #[.agg (Yc k Z0 Z4 s).toArray,L D n] h fun v' h'=>v'=H (EF Z4 s n)/\Zk h.size h h':=by
 have TG:=YN k Z0 Z4 s hs;have tk:=Xy TG;have n2:nth (Yc k Z0 Z4 s) 2=M (L D Z4):=rfl;refine Zd.XS [_,_] Tryz.func103 ?_;unfold EF;by_cases q1:(n:Int)<Z4-8
 .have d1:decide ((n:Int)<Z4-8)=true:=decide_eq_true q1;simp -implicitDefEqProofs only[go_sem,TG,tk,n2,q1,d1,Bool.true_or]
 .have d1:decide ((n:Int)<Z4-8)=false:=decide_eq_false q1;by_cases q2:(n:Int)<Z4
  .have d2:decide ((n:Int)<Z4)=true:=decide_eq_true q2;obtain⟨i,hi⟩:∃i:Nat,(n:Int)-(Z4-8)=i:=⟨((n:Int)-(Z4-8)).toNat,nc⟩
   have hi8:i<8:=nc;have Zs5:(i:Int)<8:=nc;have n3:nth (Yc k Z0 Z4 s) (3+i)=M (H (s.getD i false)):=by
    have:=OH s i nc;rw[YR]at this ⊢;rw[<-this];show (k :: L D Z0 :: L D Z4 :: s.map Value.bool)[3+i]? = _;rw[Nat.add_comm];rfl
   simp -implicitDefEqProofs only[go_sem,TG,tk,n2,q1,q2,d1,d2,hi,Zs5,W,n3,aU]
  .have d2:decide ((n:Int)<Z4)=false:=decide_eq_false q2;simp -implicitDefEqProofs only[go_sem,TG,tk,n2,q1,q2,d1,d2,aU]
theorem iA(k:al)(Z0 Z4:Int)(s t:List Bool)(hs:(y s)=8)(ht:(y t)=8):Y9 (Yc k Z0 Z4 s) 3 (t.map Value.bool)=Yc k Z0 Z4 t:=by
 have:=Tb [k,L D Z0,L D Z4] (s.map Value.bool) (t.map Value.bool);rw[Z3 (by simp[hs,ht])]at this;exact this
set_option maxHeartbeats 1000000 in
theorem Zcu(h:Hp)(k:al)(kl:List Nat)(Z0 Z4:Int)(s:List Bool)(n:Nat)(hs:(y s)=8)(sk:Bs h k kl)(hk:(y kl)<=140737488355328)(t0:0<=Z4)(t1:Z4<=1073741824)(hn:n<1073741824)(hm:¬(n:Int)<Z4-8):
  Zd Z T 105 #[.agg (Yc k Z0 Z4 s).toArray,L D n] h fun v' h'=>CQ h.size h' v' kl Z0 (max Z4 (n+1)) (Jx (Rz Z4 s 8++[(n:Int)]) (max Z4 (n+1)))/\Zk h.size h h':=by
 obtain⟨p,c,rfl,_⟩:=sk.open;have TG:=YN (A p (y kl) c) Z0 Z4 s hs;have tk:=Xy TG;refine Zd.MQ [_,_] Tryz.func105 ?_;simp -implicitDefEqProofs only[go_sem,TG,tk];have SZ:Zk h.size h ((h.push (K (Yc (A p (y kl) c) Z0 Z4 s).toArray 66)).push (K Vc.toArray 66)):=by (repeat' (first|exact Zk.refl _ _|assumption|refine Zk.add ?_ _|refine Zk.Zt ?_ (by first|omega|(simp;omega)) _|refine Zk.trans (by assumption) ?_))
 refine (wy T _ _ kl Z0 Z4 s hs (sk.Yy SZ) hk).use ?_;rintro _ g1 ⟨⟨w,rfl,o1⟩,b1⟩;have x0:g1[h.size]? = M (K (Yc (A p (y kl) c) Z0 Z4 s).toArray 66):=b1.get (by simp only[O];omega) (by simp only[Y,O,aa,↓reduceIte]);have x1:g1[h.size+1]? = M (K Vc.toArray 66):=b1.get (by simp only[O];omega) (by simp only[Y,O,aa,↓reduceIte]<;>rfl);have WT:Zk h.size h g1:=SZ.trans (b1.mono (by simp;omega));have z1:=Za x1;simp only[O]at o1;obtain⟨pw,cw,rfl,_⟩:=o1.open;clear b1 SZ;have y2:V.hc g1 ⟨h.size,2,R⟩=M (L D Z4):=by rw[Zn x0];rfl
 have I8:=YN (A pw (y kl) cw) Z0 Z4 s hs;have pI:=Xy I8;have oD:=UQ (p:=pw) (n:=(y kl)) (c:=cw) Z0 Z4 s;have lpD:∀v,Y9 [v,L D 0,L D 0,H false,H false,H false,H false,H false,H false,H false,H false] 0 (Yc (A pw (y kl) cw) Z0 Z4 s)=Yc (A pw (y kl) cw) Z0 Z4 s:=fun v=>Z3 I8;have e1:(n:Int)+1=((n+1:Nat):Int):=rfl;obtain⟨TP,hTP⟩:∃TP:Int,TP=max Z4 (n+1):=⟨_,rfl⟩
 have vO:(if ((n+1:Nat):Int)>Z4 then ((n+1:Nat):Int) else Z4)=TP:=by rw[hTP];split<;>omega
 have sD:(Yc (A pw (y kl) cw) Z0 Z4 s).set 2 (L D TP)=Yc (A pw (y kl) cw) Z0 TP s:=rfl;have Zs6:=YN (A pw (y kl) cw) Z0 TP s hs;have lE:Y9 (Yc (A pw (y kl) cw) Z0 TP s) 3 [H false,H false,H false,H false,H false,H false,H false,H false]=Yc (A pw (y kl) cw) Z0 TP (Jx (Rz Z4 s 0) TP):=iA (A pw (y kl) cw) Z0 TP s JK hs rfl;have y0r:rd g1 ⟨h.size,3,R⟩ 8=M (s.map Value.bool):=by
  have Px:(s.map Value.bool).length=8:=by rw[List.length_map,hs]
  have:=YJ x0 (o:=3) (n:=8) (by rw[TG];omega);rw[this];have e:(Yc (A p (y kl) c) Z0 Z4 s).drop 3=s.map Value.bool:=rfl;rw[e,Xy Px]
 rw[<-hTP];simp -implicitDefEqProofs only[go_sem,I8,pI,oD,lpD,y2,e1,vO,sD,Zs6,lE,y0r];obtain⟨bo,hbo⟩:∃b,b=g1.size:=⟨_,rfl⟩
 obtain⟨J,hJ⟩:=ZQ (g1.push (K (Yc (A pw (y kl) cw) Z0 TP (Jx (Rz Z4 s 0) TP)).toArray 66));have J5:J[bo]? = M (K (Yc (A pw (y kl) cw) Z0 TP (Jx (Rz Z4 s 0) TP)).toArray 66):=by rw[hJ,hbo];exact Zc
 have J0:J[h.size]? = M (K (Yc (A p (y kl) c) Z0 Z4 s).toArray 66):=by rw[hJ,ZJ (by omega)];exact x0
 have J1:J[h.size+1]? = M (K Vc.toArray 66):=by rw[hJ,ZJ (by omega)];exact x1
 have JB:Zk h.size h J:=by rw[hJ];exact WT.YU WT.size _
 have Jo:Yx (h.size+1+1) 5 J (A pw (y kl) cw) kl:=by rw[hJ];exact o1.push _
 have Jlt:∀b,Yf (A pw (y kl) cw)=M b->b<bo:=fun b hb=>by have:=o1.Zq.lt b hb;omega
 have Jsz:J.size=bo+1:=by rw[hJ,O,hbo]
 rw[<-hJ,<-hbo];clear hJ;refine VS.Yj (fun F g=>F 1=L D n/\F 2=au (M ⟨h.size,0,R⟩)/\F 4=au (M ⟨h.size+1,0,R⟩)/\F 5=au (M ⟨bo,0,R⟩)/\F 20=.agg (s.map Value.bool).toArray/\∃i:Nat,i<=8/\F 21=L D i/\g=J.setIfInBounds bo (K (Yc (A pw (y kl) cw) Z0 TP (Jx (Rz Z4 s i) TP)).toArray 66))
  (fun F _=>8-(vi (F 21)).toNat) rfl ⟨rfl,rfl,rfl,rfl,rfl,0,by omega,rfl,(Vd J5).symm⟩ ?_
 rintro F g ⟨f1,f2,f4,f5,f20,i,hi,f21,rfl⟩;have hx:=Yd (o:=K (Yc (A pw (y kl) cw) Z0 TP (Jx (Rz Z4 s i) TP)).toArray 66) J5;have Pq:(J.setIfInBounds bo (K (Yc (A pw (y kl) cw) Z0 TP (Jx (Rz Z4 s i) TP)).toArray 66))[h.size]? = M (K (Yc (A p (y kl) c) Z0 Z4 s).toArray 66):=by rw[X,if_neg (by omega)];exact J0
 have sl8:=Sk (Rz Z4 s i) TP;have XC:=oP Z4 s i;obtain⟨SS,hSS⟩:=ZQ (Jx (Rz Z4 s i) TP);by_cases ZU:i<8
 .have Z8:(i:Int)<8:=by omega
  rw[<-hSS]at hx Pq sl8 ⊢;obtain⟨G,hG⟩:=ZQ (J.setIfInBounds bo (K (Yc (A pw (y kl) cw) Z0 TP SS).toArray 66));rw[<-hG]at hx Pq ⊢;have n1:=OH s i (by omega);have y2:V.hc G ⟨h.size,2,R⟩=M (L D Z4):=by rw[Zn Pq];rfl
  have y5:V.hc G ⟨bo,2,R⟩=M (L D TP):=by rw[Zn hx];rfl
  obtain⟨b,hb⟩:=ZQ (s.getD i false);rw[<-hb]at n1 XC
  cases b with
  | false=>
   rw[if_neg (by decide),List.append_nil]at XC;simp -implicitDefEqProofs only[go_sem,f1,f2,f4,f5,f20,f21,Z8,W,n1,y2,y5];refine⟨⟨f1,f2,f4,f5,f20,i+1,ZU,rfl,?_⟩,?_⟩
   .rw[XC,hG,hSS]
   .simp only[vi,Zr,↓reduceIte,f21];omega
  | true=>
   rw[if_pos rfl]at XC;have ik:=Ij (Rz Z4 s i) TP (Z4-8+(i:Int)) (by omega);rw[<-XC,<-hSS]at ik;have ex:Z4-8+(i:Int)-TP+8=Z4+(i:Int)-TP:=by omega
   rw[ex]at ik;by_cases hk0:0<=Z4+(i:Int)-TP
   .rw[if_pos hk0]at ik;obtain⟨j,hj⟩:∃j:Nat,Z4+(i:Int)-TP=j:=⟨(Z4+(i:Int)-TP).toNat,by omega⟩
    rw[hj,W]at ik;have hj8:(j:Int)<8:=by omega
    have hj0:(0:Int)<=(j:Int):=by omega
    have ZEV:j<8:=by omega
    have hlen:=YN (A pw (y kl) cw) Z0 TP SS sl8;have w1:QP G ⟨bo,3+j,R⟩ (H true)=M (G.setIfInBounds bo (K (Yc (A pw (y kl) cw) Z0 TP (SS.set j true)).toArray 66)):=by
     rw[Xe hx,if_pos ⟨by rw[hlen];omega,rfl⟩,AZ]
    simp -implicitDefEqProofs only[go_sem,f1,f2,f4,f5,f20,f21,Z8,W,n1,y2,y5,hj,hj0,hj8,w1];refine⟨⟨f1,f2,f4,f5,f20,i+1,ZU,rfl,?_⟩,?_⟩
    .rw[ik,hG,set_set]
    .simp only[vi,Zr,↓reduceIte,f21];omega
   .rw[if_neg hk0]at ik;simp -implicitDefEqProofs only[go_sem,f1,f2,f4,f5,f20,f21,Z8,W,n1,y2,y5,hk0];refine⟨⟨f1,f2,f4,f5,f20,i+1,ZU,rfl,?_⟩,?_⟩
    .rw[ik,hG]
    .simp only[vi,Zr,↓reduceIte,f21];omega
 .have Xp:¬(i:Int)<8:=by omega
  obtain rfl:i=8:=by omega
  have c8:((8:Nat):Int)=8:=rfl;rw[c8]at f21 Xp;have ik:=Ij (Rz Z4 s 8) TP (n:Int) (by omega);rw[if_pos (by omega),<-hSS]at ik;have UY:(J.setIfInBounds bo (K (Yc (A pw (y kl) cw) Z0 TP (Jx (Rz Z4 s 8) TP)).toArray 66))[h.size+1]? = M (K Vc.toArray 66):=by rw[X,if_neg (by omega)];exact J1
  have HB:=JB.Zt (b:=bo) (by omega) (K (Yc (A pw (y kl) cw) Z0 TP (Jx (Rz Z4 s 8) TP)).toArray 66);have HO:Yx (h.size+1+1) 5 (J.setIfInBounds bo (K (Yc (A pw (y kl) cw) Z0 TP (Jx (Rz Z4 s 8) TP)).toArray 66)) (A pw (y kl) cw) kl:=
   Jo.kI (x:=M bo) ⟨by simp,fun b hb Y4=>by rw[X,if_neg (fun e=>Y4 (by rw[e]))]⟩ (fun b hb e=>by have:=Jlt b hb;simp at e;omega)
  rw[<-hSS]at hx UY HB HO sl8 ⊢;obtain⟨j,hj⟩:∃j:Nat,(n:Int)-(TP-8)=j:=⟨((n:Int)-(TP-8)).toNat,by omega⟩
  have hj2:(n:Int)-TP+8=j:=by omega
  rw[hj2,W]at ik;have hj8:(j:Int)<8:=by omega
  have hlen:=YN (A pw (y kl) cw) Z0 TP SS sl8;obtain⟨G,hG⟩:=ZQ (J.setIfInBounds bo (K (Yc (A pw (y kl) cw) Z0 TP SS).toArray 66));rw[<-hG]at hx UY HB HO ⊢;have y5:V.hc G ⟨bo,2,R⟩=M (L D TP):=by rw[Zn hx];rfl
  have w1:QP G ⟨bo,3+j,R⟩ (H true)=M (G.setIfInBounds bo (K (Yc (A pw (y kl) cw) Z0 TP (SS.set j true)).toArray 66)):=by
   rw[Xe hx,if_pos ⟨by rw[hlen];omega,rfl⟩,AZ]
  rw[ik];have Zlc:(SS.set j true).length=8:=by rw[List.length_set];exact sl8
  obtain⟨S2,hS2⟩:=ZQ (SS.set j true);rw[<-hS2]at w1 Zlc ⊢;have lQ:=YN (A pw (y kl) cw) Z0 TP S2 Zlc;have o2:=UQ (p:=pw) (n:=(y kl)) (c:=cw) Z0 TP S2;have tk2:=Xy lQ;have hxb:=Yd (o:=K (Yc (A pw (y kl) cw) Z0 TP S2).toArray 66) hx;have rb:=Zy hxb lQ;have Zs8:(G.setIfInBounds bo (K (Yc (A pw (y kl) cw) Z0 TP S2).toArray 66))[h.size+1]? = M (K Vc.toArray 66):=by rw[X,if_neg (by omega)];exact UY
  have w2:=wrZ Zs8 lQ o2;have k5:=Za UY;have HO2:Yx (h.size+1+1) 5 (G.setIfInBounds bo (K (Yc (A pw (y kl) cw) Z0 TP S2).toArray 66)) (A pw (y kl) cw) kl:=
   HO.kI (x:=M bo) ⟨by simp,fun b hb Y4=>by rw[X,if_neg (fun e=>Y4 (by rw[e]))]⟩ (fun b hb e=>by have:=Jlt b hb;simp at e;omega)
  have HB2:=(HB.Zt (b:=bo) (by omega) (K (Yc (A pw (y kl) cw) Z0 TP S2).toArray 66)).Zt (b:=h.size+1) (by omega) (K (Yc (A pw (y kl) cw) Z0 TP S2).toArray 66);simp -implicitDefEqProofs only[go_sem,f1,f2,f4,f5,f20,f21,Xp,y5,hj,hj8,W,w1,rb,w2,lQ,tk2,k5];exact⟨⟨_,rfl,(HO2.Ya (by omega) _).mono (by omega)⟩,HB2⟩
theorem xV{a b c d:Nat}(ha:a<256)(hb:b<256)(hc:c<256)(hd:d<256):YM .or D (YM .or D (YM .or D (Xm D (a:Int) 24) (Xm D (b:Int) 16)) (Xm D (c:Int) 8)) (d:Int)=((16777216*a+65536*b+256*c+d:Nat):Int):=by
 have e1:Xm D (a:Int) 24=((a*16777216:Nat):Int):=SQ ha 24 nc;have e2:Xm D (b:Int) 16=((b*65536:Nat):Int):=SQ hb 16 nc;have e3:Xm D (c:Int) 8=((c*256:Nat):Int):=SQ hc 8 nc;have f1:a*16777216 ||| b*65536=a*16777216+b*65536:=Um (k:=24) nc nc
 have f2:(a*16777216+b*65536) ||| c*256=a*16777216+b*65536+c*256:=Um (k:=16) nc nc
 rw[e1,e2,e3,NK _ _ nc nc,f1,NK _ _ nc nc,f2,NK _ _ nc nc,Um (k:=8) nc nc]
 congr 1;omega
def Vv(l:List Nat):Nat:=16777216*l.getD 0 0+65536*l.getD 1 0+256*l.getD 2 0+l.getD 3 0
theorem iB{l:List Nat}(w:∀x∈l,x<256)(hl:4<=(y l)):YH (Vv l)=l.take 4:=by
 match l,hl with
 | a :: b :: c :: d :: l,_=>
  have h1:=w a Hg;have h2:=w b Hg;have h3:=w c Hg;have h4:=w d Hg;show [_,_,_,_]=[a,b,c,d]
  have e:Vv (a :: b :: c :: d :: l)=16777216*a+65536*b+256*c+d:=rfl;rw[e]
  congr 1
  .omega
  .congr 1
   .omega
   .congr 1
    .omega
    .congr 1
     omega
theorem Zgw{a b c d:Nat}(ha:a<256)(hb:b<256)(hc:c<256)(hd:d<256):16777216*a+65536*b+256*c+d<4294967296:=nc
theorem Zcv(l:List Nat):Vv l=16777216*l.getD 0 0+65536*l.getD 1 0+256*l.getD 2 0+l.getD 3 0:=by unfold Vv;rfl
def U6(kl:List Nat)(Z0 Z4:Int)(s:List Bool)(rc:List Nat):Int:=
 if Jc (y kl) Z0 Z4 s≠0 then 5 else if 2020<(y rc) then 1 else if (y rc)<20 then 13 else if 1073741824<=Vv rc then 2 else
 if EF Z4 s (Vv rc)=true then 7 else OQ kl (XL (YH (Vv rc))) (YH (Vv rc)) (rc.drop 4)
def Dv(kl rc:List Nat):List Nat:=lK kl (XL (YH (Vv rc))) (rc.drop 4)
def Iv(Z4:Int)(s:List Bool)(n:Nat):List Bool:=Jx (Rz Z4 s 8++[(n:Int)]) (max Z4 (n+1))
def Bf(B:Nat)(h':Hp)(v':al)(kl:List Nat)(Z0 Z4:Int)(s:List Bool)(rc:List Nat):Prop:=∃cw w,v'=.tuple [cw,w,L D (U6 kl Z0 Z4 s rc)].toArray /\
 lP B h' cw (U6 kl Z0 Z4 s rc) kl Z0 (max Z4 (Vv rc+1)) (Iv Z4 s (Vv rc))/\Yx B 5 h' w (if U6 kl Z0 Z4 s rc=0 then Dv kl rc else [])
theorem xW{Z4:Int}{s:List Bool}{n:Nat}(h:¬EF Z4 s n=true):¬(n:Int)<Z4-8:=by
 intro ZU;apply h;unfold EF;rw[decide_eq_true ZU];rfl
set_option maxHeartbeats 2000000 in
theorem aQ(h:Hp)(k u:al)(kl rc:List Nat)(Z0 Z4:Int)(s:List Bool)(hs:(y s)=8)(sk:Bs h k kl)(sp:Bs h u rc)(ck:Ph k)(cu:Ph u):
  Zd Z T 81 #[.agg (Yc k Z0 Z4 s).toArray,u] h fun v' h'=>Bf h.size h' v' kl Z0 Z4 s rc/\Zk h.size h h':=by
 have wr':=sp.byte;obtain⟨p,c,rfl,_⟩:=sk.open;obtain⟨q,d,rfl,hqc⟩:=sp.VA;have cu:(y rc)<=d:=cu;have TG:=YN (A p (y kl) c) Z0 Z4 s hs;have tk:=Xy TG;refine Zd.MQ [_,_] Tryz.func81 ?_;simp -implicitDefEqProofs only[go_sem,TG,tk];have SZ:Zk h.size h ((h.push (K (Yc (A p (y kl) c) Z0 Z4 s).toArray 66)).push (K Vc.toArray 66)):=by (repeat' (first|exact Zk.refl _ _|assumption|refine Zk.add ?_ _|refine Zk.Zt ?_ (by first|omega|(simp;omega)) _|refine Zk.trans (by assumption) ?_))
 refine (MV T _ p (y kl) c Z0 Z4 s hs).use ?_;rintro _ g1 ⟨rfl,b1⟩;have x0:g1[h.size]? = M (K (Yc (A p (y kl) c) Z0 Z4 s).toArray 66):=b1.get (by simp only[O];omega) (by simp only[Y,O,aa,↓reduceIte]);have x1:g1[h.size+1]? = M (K Vc.toArray 66):=b1.get (by simp only[O];omega) (by simp only[Y,O,aa,↓reduceIte]<;>rfl);have WT:Zk h.size h g1:=SZ.trans (b1.mono (by simp;omega));have z1:=Za x1;clear b1 SZ;have Pe:U6 kl Z0 Z4 s rc=if Jc (y kl) Z0 Z4 s≠0 then 5 else if 2020<(y rc) then 1 else if (y rc)<20 then 13 else if 1073741824<=Vv rc then 2 else
 if EF Z4 s (Vv rc)=true then 7 else OQ kl (XL (YH (Vv rc))) (YH (Vv rc)) (rc.drop 4):=rfl
 unfold Bf lP Dv;have hbe:Vv rc=16777216*rc.getD 0 0+65536*rc.getD 1 0+256*rc.getD 2 0+rc.getD 3 0:=Zcv rc;have h4:4<=(y rc)->YH (Vv rc)=rc.take 4:=fun hl=>iB wr' hl;obtain⟨E,hE⟩:=ZQ (U6 kl Z0 Z4 s rc);rw[<-hE]at Pe ⊢;clear hE;obtain⟨n,hn⟩:=ZQ (Vv rc);rw[<-hn]at Pe hbe h4 ⊢;clear hn;have wz:∀g:Hp,g[h.size+1]? = M (K Vc.toArray 66)->wr g ⟨h.size+1,0,R⟩ [A R 0 0,L D 0,L D 0,H false,H false,H false,H false,H false,H false,H false,H false]=M (g.setIfInBounds (h.size+1) (K [A R 0 0,L D 0,L D 0,H false,H false,H false,H false,H false,H false,H false,H false].toArray 66)):=fun g hg=>wrZ hg rfl rfl;have hBz:∀g:Hp,Zk h.size h g->Zk h.size h (g.setIfInBounds (h.size+1) (K #[A R 0 0,L D 0,L D 0,H false,H false,H false,H false,H false,H false,H false,H false] 66)):=fun g hg=>hg.Zt (by omega) _;have wz1:=wz g1 x1;by_cases e0:Jc (y kl) Z0 Z4 s=0
 .obtain⟨hk,s0,s1,t0,t1⟩:=Lm e0;rw[if_neg (by simp[e0])]at Pe;by_cases hm:2020<(y rc)
  .rw[if_pos hm]at Pe;have Hl:2020<((y rc):Int):=by omega
   simp -implicitDefEqProofs only[go_sem,e0,Hl,wz1,z1];exact⟨⟨_,_,by rw[Pe];rfl,⟨_,rfl,Yx.nil _ _ _⟩,Yx.nil _ _ _⟩,hBz _ WT⟩
  .rw[if_neg hm]at Pe;have Hl:¬2020<((y rc):Int):=by omega
   by_cases tM:(y rc)<20
   .rw[if_pos tM]at Pe;have Zgx:((y rc):Int)<20:=by omega
    simp -implicitDefEqProofs only[go_sem,e0,Hl,Zgx,wz1,z1];exact⟨⟨_,_,by rw[Pe];rfl,⟨_,rfl,Yx.nil _ _ _⟩,Yx.nil _ _ _⟩,hBz _ WT⟩
   .rw[if_neg tM]at Pe;have Zgx:¬((y rc):Int)<20:=by omega
    obtain⟨bb,oo,rfl,Tm,hqc⟩:=hqc (by intro e;rw[e]at tM;simp at tM);have u0:V.hc g1 ⟨bb,oo+0,R⟩=M (L .u8 (rc.getD 0 0:Nat)):=by rw[WT.hc (by exact Tm)];exact hqc 0 (by omega)
    have u1:V.hc g1 ⟨bb,oo+1,R⟩=M (L .u8 (rc.getD 1 0:Nat)):=by rw[WT.hc (by exact Tm)];exact hqc 1 (by omega)
    have u2:V.hc g1 ⟨bb,oo+2,R⟩=M (L .u8 (rc.getD 2 0:Nat)):=by rw[WT.hc (by exact Tm)];exact hqc 2 (by omega)
    have u3:V.hc g1 ⟨bb,oo+3,R⟩=M (L .u8 (rc.getD 3 0:Nat)):=by rw[WT.hc (by exact Tm)];exact hqc 3 (by omega)
    rw[Nat.add_zero]at u0;have w0:=Z2 wr' 0;have w1:=Z2 wr' 1;have w2:=Z2 wr' 2;have w3:=Z2 wr' 3;have h4:=h4 (by omega);have s4:=OO sp (m:=4) (by omega) 4;rw[<-h4]at s4;generalize rc.getD 0 0=r0 at *;generalize rc.getD 1 0=r1 at *;generalize rc.getD 2 0=r2 at *;generalize rc.getD 3 0=r3 at *;have Zld:Unit->_:=fun _=>Pe;clear Pe;have Zr9:n<4294967296:=by rw[hbe];exact Zgw w0 w1 w2 w3
    have d4:(4:Int)<=d:=by omega
    have sh:Unit->YM .or D (YM .or D (YM .or D (Xm D (r0:Int) 24) (Xm D (r1:Int) 16)) (Xm D (r2:Int) 8)) (r3:Int)=(n:Int):=fun _=>by rw[xV w0 w1 w2 w3,hbe]
    clear hbe;simp -implicitDefEqProofs only[go_sem,e0,Hl,Zgx,d4];refine VS.mono (N:=fun F g=>g1=g/\F 1=A (M ⟨bb,oo,R⟩) (y rc) d/\F 2=au (M ⟨h.size,0,R⟩)/\F 4=au (M ⟨h.size+1,0,R⟩)/\F 8=A (M ⟨bb,oo,R⟩) 4 4/\F 9=L D n) ?_ ?_ (fun _ _ _ h=>h) (fun _ _ h=>h)
    .refine VS.q mixed (by kernel_rfl) ?_;simp -implicitDefEqProofs only[go_sem,u0,u1,u2,u3];exact congrArg _ (sh ())
    clear sh w0 w1 w2 w3;have Pe:=Zld ();clear Zld;rintro F _ ⟨rfl,f1,f2,f4,f8,f9⟩;by_cases hb:1073741824<=n
    .rw[if_pos hb]at Pe;have Qa:(1073741824:Int)<=(n:Int):=by clear Pe;omega
     simp -implicitDefEqProofs only[go_sem,f1,f2,f4,f8,f9,Qa,wz1,z1];exact⟨⟨_,_,by rw[Pe];rfl,⟨_,rfl,Yx.nil _ _ _⟩,Yx.nil _ _ _⟩,hBz _ WT⟩
    .rw[if_neg hb]at Pe;have Qa:¬(1073741824:Int)<=(n:Int):=by clear Pe;omega
     have rC:rd g1 ⟨h.size,0,R⟩ 11=M (Yc (A p (y kl) c) Z0 Z4 s):=Zy x0 TG;simp -implicitDefEqProofs only[go_sem,f1,f2,f4,f8,f9,Qa,rC];refine (Zgu T _ _ Z0 Z4 s n hs t0 t1 (by clear Pe;omega)).use ?_;rintro _ g2 ⟨rfl,b2⟩;have x02:=b2.get (Nat.lt_of_succ_lt z1) x0;have x12:=b2.get z1 x1;have z2:=b2.size;have Py:=WT.trans (b2.mono WT.size);have wz2:=wz g2 x12;have zl2:=Za x12;by_cases xX:EF Z4 s n=true
     .rw[if_pos xX]at Pe;simp -implicitDefEqProofs only[go_sem,f1,f2,f4,f8,f9,xX,wz2,zl2];exact⟨⟨_,_,by rw[Pe];rfl,⟨_,rfl,Yx.nil _ _ _⟩,Yx.nil _ _ _⟩,hBz _ Py⟩
     .rw[if_neg xX]at Pe;have ZkR:=xW xX;have Zlf:EF Z4 s n=false:=by simpa using xX
      have y0:V.hc g2 ⟨h.size,0,R⟩=M (A p (y kl) c):=by rw[Zn x02];rfl
      have zl0:=Za x02;have l4:(YH n).length=4:=rfl;have l12:(XL (YH n)).length<=1000:=by simp[XL,YH]
      have sbk:=OJ sp rfl (k:=4) (by omega) cu (d-4);have Zs9:(4:Int)<=(y rc):=by clear Pe;omega
      simp -implicitDefEqProofs only[go_sem,f1,f2,f4,f8,f9,Zlf];refine VS.w (g2.size) [] (.q 0 (.q 1 (.q 2 (.q 4 (.q 5 (.q 6 (.s 3 (.s 7 (.q 8 (.q 9 (.q 10 (.q 11 (.q 12 .nil))))))))))))) mixed (by kernel_rfl) ?_;simp -implicitDefEqProofs only[go_sem,f1,f2,f4,f8,f9,y0,zl0,Zs9,WC];refine (Lk T _ _ _ (s4.Yy Py) (by rw[l4];decide)).use ?_;rintro vn g3 ⟨on,b3⟩;have z3:=b3.size;have b3T:Zk g2.size g2 g3=True:=eq_true b3;have hB3:=Py.trans (b3.mono Py.size);simp -implicitDefEqProofs only[go_sem,f1,f2,f4,f8,f9,b3T];refine (Zct T _ _ _ _ _ kl (XL (YH n)) (YH n) (rc.drop 4) (sk.Yy hB3) on.bs (s4.Yy hB3) (sbk.Yy hB3) ck on.cap (show (y rc)-4<=d-4 by omega)).use ?_;rintro _ g4 ⟨⟨w4,rfl,o4⟩,b4⟩;have z4:=b4.size;have d7:Zk g2.size g2 g4:=b3.trans (b4.mono z3);have xS:Zk g2.size g2 g4=True:=eq_true d7;rw[<-Pe]at o4 ⊢;have x14:=d7.get zl2 x12;have x04:=d7.get zl0 x02;have lu:=Py.trans (d7.mono Py.size);have wz4:=wz g4 x14;have zl4:=Za x14;clear Pe;by_cases hE0:E=0
      .subst hE0;rw[if_pos rfl]at o4;have rC4:rd g4 ⟨h.size,0,R⟩ 11=M (Yc (A p (y kl) c) Z0 Z4 s):=Zy x04 TG;simp -implicitDefEqProofs only[go_sem,f1,f2,f4,f8,f9,xS,rC4];refine (Zcu T _ _ kl Z0 Z4 s n hs (sk.Yy lu) (by omega) t0 t1 (by omega) ZkR).use ?_;rintro _ g5 ⟨⟨w5,rfl,o5⟩,b5⟩;have x15:=b5.get zl4 x14;have z5:=b5.size;obtain⟨pw,cw,rfl,_⟩:=o5.open;have l8:(Iv Z4 s n).length=8:=Sk _ _;have I8:=YN (A pw (y kl) cw) Z0 (max Z4 ((n:Int)+1)) (Iv Z4 s n) l8;have oD:=UQ (p:=pw) (n:=(y kl)) (c:=cw) Z0 (max Z4 ((n:Int)+1)) (Iv Z4 s n);have pI:=Xy I8;have wD:=wrZ x15 I8 oD;have zl5:=Za x15;rw[show Jx (Rz Z4 s 8++[(n:Int)]) (max Z4 ((n:Int)+1))=Iv Z4 s n from rfl];have o4':=o4.Yy b5 (Q _);obtain⟨C5,hC5⟩:=ZQ (Yc (A pw (y kl) cw) Z0 (max Z4 ((n:Int)+1)) (Iv Z4 s n));rw[<-hC5]at I8 oD pI wD ⊢;simp -implicitDefEqProofs only[go_sem,f1,f2,f4,f8,f9,xS,wD,I8,pI,zl5];exact⟨⟨_,_,rfl,⟨_,by rw[hC5],(o5.Ya (by omega) _).mono (by omega)⟩,(o4'.Ya (by omega) _).mono (by omega)⟩,(lu.trans (b5.mono lu.size)).Zt (by omega) _⟩
      .rw[if_neg hE0]at o4;simp -implicitDefEqProofs only[go_sem,f1,f2,f4,f8,f9,xS,hE0,wz4,zl4];exact⟨⟨_,_,rfl,⟨_,rfl,Yx.nil _ _ _⟩,Yx.nil _ _ _⟩,hBz _ lu⟩
 .rw[if_pos e0]at Pe;have e5:=(Ll (y kl) Z0 Z4 s).resolve_left e0;simp -implicitDefEqProofs only[go_sem,e5,wz1,z1];exact⟨⟨_,_,by rw[Pe];rfl,⟨_,rfl,Yx.nil _ _ _⟩,Yx.nil _ _ _⟩,hBz _ WT⟩
end Go.Proofs.YthlfaofofaphfaaGreatDoor
