/- Part Takf. -/
import Derived.Test.YtkhkmpfenaipaaaGreatDoorPolg
import Derived.Test.YtkhkmpfenaipaaaGreatDoorMix
import Derived.Test.YtkhkmpfenaipaaaGreatDoorBytes
import Derived.Test.YtkhkmpfenaipaaaGreatDoorVst
import Derived.Test.YtkhkmpfenaipaaaGreatDoorW15
import Derived.Test.YtkhkmpfenaipaaaGreatDoorLine
import Derived.Test.YtkhkmpfenaipaaaGreatDoorW13
open Go.Value renaming slice→A,bool→H,int→L,pointer→ak
open Go.IntKind renaming i64→D
open Go.Obj renaming cells→K
open Go.Proofs.Tryz renaming underlying39→R,prog→Z
open List renaming length→y,toArray→X,replicate→ae,length_append→am
open Nat renaming le_refl→U,shiftRight_eq_div_pow→an
open Int renaming toNat_natCast→W
open Option renaming some→O,none→Q
open Array renaming setIfInBounds→M,getElem?_setIfInBounds→Y,size_push→al,getElem?_push→ao
open Bool renaming false_or→aw
open Go.IntWalk renaming iteOmega→aq
open Go renaming Value→aa
namespace Go.Proofs.YtkhkmpfenaipaaaGreatDoor
set_option maxHeartbeats 2000000
open Go Go.V
set_option linter.all false
set_option maxRecDepth 100000
variable(T:World)
def wI(l:List Nat):List Nat:=l++ae ((16-(y l)%16)%16) 0
def gx(n:Nat):List Nat:=(List.range 8).map fun i=>n/256 ^ i%256
def Pw(Zi a:List Nat):List Nat:=wI Zi++wI a++gx (y Zi)++gx (y a)
def WR(key a Zi b:List Nat):List Nat:=mS ((JP key 0 a).take 32) (Pw Zi b)
theorem gy(l:List Nat):(wI l).length=(y l)+(16-(y l)%16)%16:=by simp[wI]
theorem bF(l:List Nat):(wI l).length<=(y l)+15:=by rw[gy];omega
theorem Ws(n:Nat):(gx n).length=8:=by simp[gx]
theorem BU(h:Hp)(v:aa)(l:List Nat)(s:Bs h v l)(m:(y l)<=4000):
  Zg Z T 82 #[v] h fun d h'=>YL h.size 5 h' d (wI l)/\Zm h.size h h':=by
 obtain⟨p,c,rfl,q⟩:=s.open;refine Zg.X8 [_] Tryz.func82 ?_;simp -implicitDefEqProofs only[go_sem];refine ZP (E:=5) (B:=h.size) XD R T8 SU SQ (YL.nil _ _ _) (U _) s Fo ?_;intro v1 o a b _;rw[List.nil_append]at a;have i:(((y l):Nat):Int).tmod 16=(((y l)%16:Nat):Int):=rfl;have g:(16:Int)-(((y l)%16:Nat):Int)=((16-(y l)%16:Nat):Int):=uh;have f:((16-(y l)%16:Nat):Int).tmod 16=(((16-(y l)%16)%16:Nat):Int):=rfl;simp -implicitDefEqProofs only[go_sem,i,g,f];refine El (E:=5) (B:=h.size) XD Tryz.underlying3 T8 SU SQ a b.size uh ?_;intro k n e j _;simp -implicitDefEqProofs only[go_sem];exact⟨e,b.trans j⟩
theorem BV(h:Hp)(n:Nat)(v:n<9223372036854775808):
  Zg Z T 83 #[L D n] h fun d h'=>YL h.size 5 h' d (gx n)/\Zm h.size h h':=by
 refine Zg.X8 [_] Tryz.func83 ?_;simp -implicitDefEqProofs only[go_sem];refine VS.YC (fun F g=>Zm h.size h g/\F 0=L D n/\∃j:Nat,j<=8/\F 4=L D (8*j:Nat)/\YL h.size 5 g (F 3) ((gx n).take j))
  (fun F _=>64-(vi (F 4)).toNat) rfl ⟨Zm.refl _ _,rfl,0,uh,rfl,YL.nil _ _ _⟩ ?_
 rintro F g ⟨i,b,j,w,a,f⟩;have t:=i.size;by_cases c:j<8
 .have q:((8*j:Nat):Int)<64:=uh;have p:Xn D (n:Int) ((8*j:Nat):Int)=((n/256 ^ j:Nat):Int):=by
   rw[Mi D n (8*j) (by show 8*j<=64;omega),an,Nat.pow_mul]
  have o:((n/256 ^ j:Nat):Int)%256=((n/256 ^ j%256:Nat):Int):=rfl;have m:¬((8*j:Nat):Int)<0:=uh;have l:((8*j:Nat):Int)+8=((8*(j+1):Nat):Int):=uh;simp -implicitDefEqProofs only[go_sem,b,a,q,p,o,m];have k:n/256 ^ j%256<256:=Nat.mod_lt _ HE;refine ZP (E:=5) (B:=h.size) XD R T8 SU SQ (f.push _) Fo (Bs.one k 1) zK ?_;intro d h' u s _;simp -implicitDefEqProofs only[go_sem,b,a,l];refine⟨⟨(i.Xj t _).trans s,b,j+1,c,rfl,?_⟩,?_⟩
  .rw[Xg _ j (by rw[Ws];exact c)];have e:(gx n)[j]'(by rw[Ws];exact c)=n/256 ^ j%256:=by simp[gx]
   rw[e];exact u
  .simp only[vi,Zu,↓reduceIte,a];omega
 .have r:¬((8*j:Nat):Int)<64:=uh;obtain rfl:j=8:=uh;rw[List.take_of_length_le (by rw[Ws];grind)]at f;simp -implicitDefEqProofs only[go_sem,b,a,r]
  grind
theorem MZ{key a:List Nat}{k:Int}(c:(y key)=32)(b:(y a)=12)(e:0<=k)(d:k<=1073741824):Qi key k a=0:=by
 unfold Qi
 grind
theorem CU(key:List Nat)(k:Nat)(a:List Nat):(JP key k a).length=64:=by simp[JP,CM]
theorem gz{Zi a:List Nat}(c:(y Zi)<=256)(b:(y a)<=2000):(Pw Zi a).length<=2400:=by
 grind [Pw,bF,Ws]
theorem gC{key data:List Nat}(a:(y key)=32)(b:(y data)<=4000):Ry key data=0:=by
 unfold Ry;grind
theorem Gb(h:Hp)(v u kn sv:aa)(key b Zi a:List Nat)(sk:Bs h v key)(V:Bs h u b)(s:Bs h kn Zi)(t:Bs h sv a)(hk:(y key)=32)(hn:(y b)=12)(hw:(y Zi)<=256)(hs:(y a)<=2000)(ck:RT v)(cn:RT u):
  Zg Z T 62 #[v,u,kn,sv] h fun S h'=>YL h.size 5 h' S (WR key b Zi a)/\Zm h.size h h':=by
 obtain⟨pw,cw,rfl,_⟩:=s.open;obtain⟨ps,cs,rfl,_⟩:=t.open;refine Zg.X8 [_,_,_,_] Tryz.func62 ?_;simp -implicitDefEqProofs only[go_sem];refine (ZbI T _ _ _ key b 0 sk V ck cn).use ?_;rintro _ d ⟨⟨w1,rfl,f⟩,i⟩;have C:=MZ (k:=0) hk hn HE HE;rw[C,if_pos rfl]at f;rw[C];have f:YL h.size 5 d w1 (JP key 0 b):=f;have z1:=i.size;simp -implicitDefEqProofs only[go_sem];refine (BU T _ _ Zi (s.YQ i) uh).use ?_;rintro v2 h2 ⟨o2,r⟩;have z2:=r.size;have N:=i.trans (r.mono z1);simp -implicitDefEqProofs only[go_sem];refine (BU T _ _ a (t.YQ N) uh).use ?_;rintro v3 h3 ⟨o3,g⟩;have z3:=g.size;have B3:=N.trans (g.mono uh);have l1:=bF Zi;have l2:=bF a;simp -implicitDefEqProofs only[go_sem];refine ZP (E:=5) (B:=d.size) XD R T8 SU SQ (o2.YQ g (U _)) uh o3.bs uh ?_;intro v4 h4 o4 I _;have z4:=I.size;simp -implicitDefEqProofs only[go_sem];refine (BV T _ (y Zi) uh).use ?_;rintro v5 h5 ⟨o5,q⟩;have z5:=q.size;simp -implicitDefEqProofs only[go_sem];refine ZP (E:=5) (B:=d.size) XD R T8 SU SQ (o4.YQ q (U _)) uh o5.bs (by simp only[am,Ws];omega) ?_;intro v6 h6 o6 G _;have z6:=G.size;simp -implicitDefEqProofs only[go_sem];refine (BV T _ (y a) uh).use ?_;rintro v7 h7 ⟨o7,p⟩;have z7:=p.size;simp -implicitDefEqProofs only[go_sem];refine ZP (E:=5) (B:=d.size) XD R T8 SU SQ (o6.YQ p (U _)) uh o7.bs (by simp only[am,Ws];omega) ?_;intro P x e F _;have z8:=F.size;have e:YL d.size 5 x P (Pw Zi a):=e;have J:Zm d.size d x:=(((((r.trans (g.mono z2)).trans I).trans (q.mono uh)).trans G).trans (p.mono uh)).trans F;have c:=f.YQ J (U _);have BN:=CU key 0 b;obtain⟨pb,cb,rfl,n⟩:=c.open;rw[BN]at n c ⊢;have j:=Mq c.bs (m:=32) uh cb;have o:(32:Int)<=cb:=uh;have l:((JP key 0 b).take 32).length=32:=aac;have hd:=gz hw hs;simp -implicitDefEqProofs only[go_sem,o];refine (gv T _ _ _ ((JP key 0 b).take 32) (Pw Zi a) j e.bs (show 32<=cb by omega) e.cap).use ?_;rintro _ h9 ⟨⟨w9,rfl,w⟩,b9⟩;have z:=gC (data:=Pw Zi a) l uh;rw[z,if_pos rfl]at w;rw[z];simp -implicitDefEqProofs only[go_sem];exact⟨w.mono uh,(i.trans (J.mono z1)).trans (b9.mono uh)⟩
def QP(k n w m a:Nat):Int:=if k≠32\/n≠12\/256<w\/a<m then 1 else 0
theorem KP{k n w m a:Nat}(e:QP k n w m a=0):k=32/\n=12/\w<=256/\m<=a:=by
 unfold QP at e
 grind
theorem Gc{k n w m a:Nat}(e:¬QP k n w m a=0):QP k n w m a=1:=by
 grind [QP]
theorem KQ(h:Hp)(p q r s:Option Addr)(k n w m c b a g e:Nat):
  Zg Z T 61 #[A p k c,A q n b,A r w a,A s m g,L D e] h fun f h'=>f=L D (QP k n w m e)/\h'=h:=by
 refine Zg.X8 [_,_,_,_,_] Tryz.func61 ?_;unfold QP;by_cases o:k=32
 ·
  by_cases l:n=12
  ·
   by_cases j:w<=256
   ·
    by_cases i:m<=e
    ·
     have d:(k:Int)=32\/¬(k:Int)=32:=uh;have c:(n:Int)=12\/¬(n:Int)=12:=uh;have b:256<(w:Int)\/¬256<(w:Int):=uh;have a:(e:Int)<(m:Int)\/¬(e:Int)<(m:Int):=uh;rcases d with d|d<;>rcases c with c|c<;>rcases b with b|b<;>rcases a with a|a<;>first
      | (exfalso;omega)
      | (rw[if_neg uh];simp -implicitDefEqProofs only[go_sem,d,c,b,a])
      | (rw[if_pos uh];simp -implicitDefEqProofs only[go_sem,d,c,b,a])
    ·
     have d:(k:Int)=32\/¬(k:Int)=32:=uh;have c:(n:Int)=12\/¬(n:Int)=12:=uh;have b:256<(w:Int)\/¬256<(w:Int):=uh;have a:(e:Int)<(m:Int)\/¬(e:Int)<(m:Int):=uh;rcases d with d|d<;>rcases c with c|c<;>rcases b with b|b<;>rcases a with a|a<;>first
      | (exfalso;omega)
      | (rw[if_neg uh];simp -implicitDefEqProofs only[go_sem,d,c,b,a])
      | (rw[if_pos uh];simp -implicitDefEqProofs only[go_sem,d,c,b,a])
   ·
    have d:(k:Int)=32\/¬(k:Int)=32:=uh;have c:(n:Int)=12\/¬(n:Int)=12:=uh;have b:256<(w:Int)\/¬256<(w:Int):=uh;have a:(e:Int)<(m:Int)\/¬(e:Int)<(m:Int):=uh;rcases d with d|d<;>rcases c with c|c<;>rcases b with b|b<;>rcases a with a|a<;>first
     | (exfalso;omega)
     | (rw[if_neg uh];simp -implicitDefEqProofs only[go_sem,d,c,b,a])
     | (rw[if_pos uh];simp -implicitDefEqProofs only[go_sem,d,c,b,a])
  ·
   have d:(k:Int)=32\/¬(k:Int)=32:=uh;have c:(n:Int)=12\/¬(n:Int)=12:=uh;have b:256<(w:Int)\/¬256<(w:Int):=uh;have a:(e:Int)<(m:Int)\/¬(e:Int)<(m:Int):=uh;rcases d with d|d<;>rcases c with c|c<;>rcases b with b|b<;>rcases a with a|a<;>first
    | (exfalso;omega)
    | (rw[if_neg uh];simp -implicitDefEqProofs only[go_sem,d,c,b,a])
    | (rw[if_pos uh];simp -implicitDefEqProofs only[go_sem,d,c,b,a])
 ·
  have d:(k:Int)=32\/¬(k:Int)=32:=uh;have c:(n:Int)=12\/¬(n:Int)=12:=uh;have b:256<(w:Int)\/¬256<(w:Int):=uh;have a:(e:Int)<(m:Int)\/¬(e:Int)<(m:Int):=uh;rcases d with d|d<;>rcases c with c|c<;>rcases b with b|b<;>rcases a with a|a<;>first
   | (exfalso;omega)
   | (rw[if_neg uh];simp -implicitDefEqProofs only[go_sem,d,c,b,a])
   | (rw[if_pos uh];simp -implicitDefEqProofs only[go_sem,d,c,b,a])
def BW(key a Zi plain:List Nat):List Nat:=KH key 1 a plain++WR key a Zi (KH key 1 a plain)
def rR(B:Nat)(h':Hp)(b:aa)(key a Zi plain:List Nat):Prop:=∃w,b=.tuple [w,L D (QP (y key) (y a) (y Zi) (y plain) 2000)].toArray/\YL B 5 h' w (if QP (y key) (y a) (y Zi) (y plain) 2000=0 then BW key a Zi plain else [])
theorem Ge{key a:List Nat}{k:Int}{n:Nat}(d:(y key)=32)(b:(y a)=12)(f:0<=k)(e:k<=1073741824)(c:n<=2000):Ru key k a n=0:=by
 grind [Ru,MZ]
theorem FE(key data:List Nat):(mS key data).length<=16:=by rw[gd];grind
theorem Zgz(h:Hp)(v u kn sv:aa)(key a Zi plain:List Nat)(j:Bs h v key)(i:Bs h u a)(m:Bs h kn Zi)(n:Bs h sv plain)(t:RT v)(s:RT u):
  Zg Z T 89 #[v,u,kn,sv] h fun w h'=>rR h.size h' w key a Zi plain/\Zm h.size h h':=by
 obtain⟨p,c,rfl,_⟩:=j.open;obtain⟨q,d,rfl,_⟩:=i.open;obtain⟨pw,cw,rfl,_⟩:=m.open;obtain⟨N,cs,rfl,_⟩:=n.open;refine Zg.X8 [_,_,_,_] Tryz.func89 ?_;unfold rR;simp -implicitDefEqProofs only[go_sem];refine (KQ T _ _ _ _ _ _ _ _ _ _ _ _ _ 2000).pure ?_;by_cases e:QP (y key) (y a) (y Zi) (y plain) 2000=0
 .let⟨r,o,hw,C⟩:=KP e;rw[e,if_pos rfl];simp -implicitDefEqProofs only[go_sem,e];refine (ZbN T _ _ _ _ key a plain 1 j i n t s).use ?_;rintro _ F ⟨⟨w1,rfl,b⟩,f⟩;have g:=Ge (k:=1) r o HE HE C;rw[g,if_pos rfl]at b;rw[g];have b:YL h.size 5 F w1 (KH key 1 a plain):=b;have z1:=f.size;have S:=S4 key 1 a plain;simp -implicitDefEqProofs only[go_sem];refine (Gb T _ _ _ _ _ key a Zi (KH key 1 a plain) (j.YQ f) (i.YQ f) (m.YQ f) b.bs r o hw uh t s).use ?_;rintro J h2 ⟨z,l⟩;have P:(WR key a Zi (KH key 1 a plain)).length<=16:=FE _ _;have z2:=l.size;simp -implicitDefEqProofs only[go_sem];refine ZP (E:=5) (B:=h.size) XD R T8 SU SQ (b.YQ l (U _)) uh z.bs uh ?_;intro I V x G _;simp -implicitDefEqProofs only[go_sem];exact⟨⟨_,rfl,x⟩,(f.trans (l.mono z1)).trans G⟩
 .have g:=Gc e;rw[if_neg e];simp -implicitDefEqProofs only[go_sem,g];exact⟨_,rfl,YL.nil _ _ _⟩
theorem BX(a:Option Addr)(c:Nat):mw a 1 c 0=a:=by
 unfold mw;split
 .rfl
 .cases a with
  | none=>rfl
  | some a=>simp[Addr.add]
def KR(key a Zi data:List Nat):Int:=if QP (y key) (y a) (y Zi) (y data) 2016≠0 then 1 else if (y data)<16 then 13 else if WR key a Zi (data.take ((y data)-16))≠data.drop ((y data)-16) then 6 else 0
def Zb9(key a data:List Nat):List Nat:=KH key 1 a (data.take ((y data)-16))
def rS(B:Nat)(h':Hp)(b:aa)(key a Zi data:List Nat):Prop:=∃w,b=.tuple [w,L D (KR key a Zi data)].toArray/\YL B 5 h' w (if KR key a Zi data=0 then Zb9 key a data else [])
theorem ZgA(h:Hp)(v u kn sv:aa)(key b Zi data:List Nat)(t:Bs h v key)(s:Bs h u b)(C:Bs h kn Zi)(r:Bs h sv data)(J:RT v)(I:RT u)(cs:RT sv):
  Zg Z T 36 #[v,u,kn,sv] h fun N h'=>rS h.size h' N key b Zi data/\Zm h.size h h':=by
 obtain⟨p,c,rfl,_⟩:=t.open;obtain⟨q,d,rfl,_⟩:=s.open;obtain⟨pw,cw,rfl,_⟩:=C.open;obtain⟨ps,o,rfl,_⟩:=r.open;have cs:(y data)<=o:=cs;refine Zg.X8 [_,_,_,_] Tryz.func36 ?_;unfold rS;simp -implicitDefEqProofs only[go_sem];refine (KQ T _ _ _ _ _ _ _ _ _ _ _ _ _ 2016).pure ?_;have a:KR key b Zi data=if QP (y key) (y b) (y Zi) (y data) 2016≠0 then 1 else if (y data)<16 then 13 else if WR key b Zi (data.take ((y data)-16))≠data.drop ((y data)-16) then 6 else 0:=rfl
 by_cases e:QP (y key) (y b) (y Zi) (y data) 2016=0
 .let⟨F,E,hw,hs⟩:=KP e;rw[if_neg (by simp[e])]at a;by_cases j:(y data)<16
  .rw[if_pos j]at a;rw[a];have z:((y data):Int)-16<0:=uh;simp -implicitDefEqProofs only[go_sem,e,z];exact⟨_,rfl,YL.nil _ _ _⟩
  .rw[if_neg j]at a;have z:¬(((y data)-16:Nat):Int)<0:=uh;have V:((y data):Int)-16=(((y data)-16:Nat):Int):=uh;have i:=Mq r (m:=(y data)-16) uh o;have w:=Mk r rfl (k:=(y data)-16) uh cs (o-((y data)-16));have a0:(data.take ((y data)-16)).length=(y data)-16:=aac;have l:(((y data)-16:Nat):Int)<=o:=uh;have B:(((y data)-16:Nat):Int)<=(y data):=uh;simp -implicitDefEqProofs only[go_sem,e,V,z];refine VS.z (h.size) [] (.p 0 (.p 1 (.p 2 (.p 3 (.p 4 (.p 5 (.p 7 (.p 8 (.p 9 (.s 6 (.s 10 (.p 11 .nil)))))))))))) mixed zI ?_;simp -implicitDefEqProofs only[go_sem,l,B,W,Vj,BX];refine (Gb T _ _ _ _ _ key b Zi (data.take ((y data)-16)) t s C i F E hw uh J I).use ?_;rintro v1 h1 ⟨P,g⟩;have l1:(WR key b Zi (data.take ((y data)-16))).length<=16:=FE _ _;simp -implicitDefEqProofs only[go_sem,g];refine (aN T _ _ _ _ _ P.bs (w.YQ g) uh).pure ?_;let⟨S,hS⟩:=ZO (WR key b Zi (data.take ((y data)-16)));rw[<-hS]at a ⊢;by_cases n:S=data.drop ((y data)-16)
   .rw[if_neg (by simp[n])]at a;rw[a,if_pos rfl];have f:decide (S=data.drop ((y data)-16))=true:=decide_eq_true n;simp -implicitDefEqProofs only[go_sem,g,f,l,Vj,BX];refine (ZbN T _ _ _ _ key b (data.take ((y data)-16)) 1 (t.YQ g) (s.YQ g) (i.YQ g) J I).use ?_;rintro _ h2 ⟨⟨w2,rfl,x⟩,b2⟩;have G:=Ge (k:=1) F E HE HE (show (data.take ((y data)-16)).length<=2000 by omega);rw[G,if_pos rfl]at x;rw[G];have x:YL h1.size 5 h2 w2 (Zb9 key b data):=x;simp -implicitDefEqProofs only[go_sem]
    grind [YL.mono,Zm.size,Zm.trans,Zm.mono]
   .rw[if_pos n]at a;rw[a];have f:decide (S=data.drop ((y data)-16))=false:=decide_eq_false n;simp -implicitDefEqProofs only[go_sem,g,f];exact⟨_,rfl,YL.nil _ _ _⟩
 .have e1:=Gc e;rw[if_pos e]at a;rw[a];simp -implicitDefEqProofs only[go_sem,e1];exact⟨_,rfl,YL.nil _ _ _⟩
def Jz(n:Nat):List Nat:=[n/16777216%256,n/65536%256,n/256%256,n%256]
theorem m7(n:Nat):∀x∈Jz n,x<256:=by
 grind [Jz]
theorem EM(n k:Nat)(a:k<=64):Xn D (n:Int) (k:Int)=((n/2 ^ k:Nat):Int):=by
 rw[Mi D n k a,an]
theorem gD(h:Hp)(n:Nat)(f:n<=1073741824):
  Zg Z T 88 #[L D n] h fun a h'=>YL h.size 5 h' a (Jz n)/\Zm h.size h h':=by
 refine Zg.X8 [_] Tryz.func88 ?_;have e:Xn D (n:Int) 24%256=((n/16777216%256:Nat):Int):=by rw[show (24:Int)=((24:Nat):Int) from rfl,EM n 24 uh];omega
 have d:Xn D (n:Int) 16%256=((n/65536%256:Nat):Int):=by rw[show (16:Int)=((16:Nat):Int) from rfl,EM n 16 uh];omega
 have c:Xn D (n:Int) 8%256=((n/256%256:Nat):Int):=by rw[show (8:Int)=((8:Nat):Int) from rfl,EM n 8 uh];omega
 have b:(n:Int)%256=((n%256:Nat):Int):=uh;simp -implicitDefEqProofs only[go_sem,e,d,c,b];exact YL.made (l:=Jz n) (m7 n) (U _)
def UU(l:List Nat):List Nat:=ae 8 0++l
theorem ZkQ:(Ug 12 [Value.int .u8 0])=(ae 12 0).map bv:=rfl
theorem KT(h:Hp)(v:aa)(l:List Nat)(s:Bs h v l)(f:(y l)<=1000):
  Zg Z T 37 #[v] h fun a h'=>YL h.size 5 h' a (UU l)/\Zm h.size h h':=by
 refine Zg.X8 [_] Tryz.func37 ?_;simp -implicitDefEqProofs only[go_sem,ZkQ];have b:YL h.size 5 (h.push (K ((ae 12 0).map bv).toArray 5)) (A (O ⟨h.size,0,Q⟩) 8 12) (ae 8 0):=by
  refine⟨.inr ⟨h.size,12,(ae 4 0).map bv,U _,rfl,?_,zX,zX,zX⟩,fun x e=>by grind⟩;rw[Zf,<-List.map_append];rfl
 refine ZP (E:=5) (B:=h.size) XD R T8 SU SQ b zX (s.YQ (Zm.push (U _) _)) Fo ?_;intro a h' d c _;simp -implicitDefEqProofs only[go_sem];exact⟨d,(Zm.push (U _) _).trans c⟩
def S8(n:Nat)(Z8 Yi:Int)(s:List Bool)(m:Nat):Int:=if JJ n Z8 Yi s≠0 then 5 else if 2000<m then 1 else if Z8=1073741824 then 8 else 0
def QQ:List Bool:=[false,false,false,false,false,false,false,false]
def nc(kl:List Nat)(n:Nat)(plain:List Nat):List Nat:=Jz n++BW kl (UU (Jz n)) (Jz n) plain
def rT(B:Nat)(h':Hp)(a:aa)(e:Int)(kl:List Nat)(Z8 Yi:Int)(s:List Bool):Prop:=aO B h' a (if e=0 then kl else []) (if e=0 then Z8 else 0) (if e=0 then Yi else 0) (if e=0 then s else QQ)
def bH(B:Nat)(h':Hp)(b:aa)(kl:List Nat)(Z8 Yi:Int)(s:List Bool)(plain:List Nat):Prop:=∃a w,b=.tuple [a,w,L D (S8 (y kl) Z8 Yi s (y plain))].toArray /\
 rT B h' a (S8 (y kl) Z8 Yi s (y plain)) kl (Z8+1) Yi s/\YL B 5 h' w (if S8 (y kl) Z8 Yi s (y plain)=0 then nc kl Z8.toNat plain else [])
theorem KU(n:Nat)(Z8 Yi:Int)(s:List Bool):JJ n Z8 Yi s=0\/JJ n Z8 Yi s=5:=by
 unfold JJ
 grind
theorem KV{n:Nat}{Z8 Yi:Int}{s:List Bool}(e:JJ n Z8 Yi s=0):n=32/\0<=Z8/\Z8<=1073741824/\0<=Yi/\Yi<=1073741824:=by
 unfold JJ at e
 grind
theorem wrZ{G:Hp}{b:Nat}(c:G[b]? = O (K (X Ti) 70)){w:List aa}(a:(y w)=11)(d:w.all YV=true):wr G ⟨b,0,Q⟩ w=O (M G b (K (X w) 70)):=by
 rw[Yr c 0 w,Yf (by rw[a];rfl),if_pos ⟨by rw[a];exact U _,d⟩]
theorem gE(h:Hp)(k u:aa)(kl plain:List Nat)(Z8 Yi:Int)(s:List Bool)(S:(y s)=8)(sk:Bs h k kl)(sp:Bs h u plain)(ck:RT k):
  Zg Z T 70 #[.agg (Ys k Z8 Yi s).toArray,u] h fun i h'=>bH h.size h' i kl Z8 Yi s plain/\Zm h.size h h':=by
 obtain⟨p,c,rfl,_⟩:=sk.open;obtain⟨q,d,rfl,_⟩:=sp.open;have Rm:=Y7 (A p (y kl) c) Z8 Yi s S;have tk:=Ja Rm;refine Zg.Kq [_,_] Tryz.func70 ?_;simp -implicitDefEqProofs only[go_sem,Rm,tk];have Pq:Zm h.size h ((h.push (K (Ys (A p (y kl) c) Z8 Yi s).toArray 70)).push (K (X Ti) 70)):=by (repeat' (first|exact Zm.refl _ _|assumption|refine Zm.add ?_ _|refine Zm.ZA ?_ (by first|omega|(simp;omega)) _|refine Zm.trans (by assumption) ?_))
 refine (Ky T _ p (y kl) c Z8 Yi s S).use ?_;rintro _ g1 ⟨rfl,b1⟩;have x0:g1[h.size]? = O (K (Ys (A p (y kl) c) Z8 Yi s).toArray 70):=b1.get (by grind) (by grind);have x1:g1[h.size+1]? = O (K (X Ti) 70):=b1.get (by grind) (by grind [Ti]);have Tb:Zm h.size h g1:=Pq.trans (b1.mono (by simp;omega));have z1:=Zb x1;clear b1 Pq;have g:S8 (y kl) Z8 Yi s (y plain)=if JJ (y kl) Z8 Yi s≠0 then 5 else if 2000<(y plain) then 1 else if Z8=1073741824 then 8 else 0:=rfl
 unfold bH rT;let⟨E,hE⟩:=ZO (S8 (y kl) Z8 Yi s (y plain));rw[<-hE]at g ⊢;have wz:=wrZ x1 (w:=[A Q 0 0,L D 0,L D 0,H false,H false,H false,H false,H false,H false,H false,H false]) rfl rfl;have o:Zm h.size h (M g1 (h.size+1) (K #[A Q 0 0,L D 0,L D 0,H false,H false,H false,H false,H false,H false,H false,H false] 70)):=Tb.ZA (by omega) _;by_cases r:JJ (y kl) Z8 Yi s=0
 .let⟨hk,s0,s1,t0,t1⟩:=KV r;rw[if_neg (by simp[r])]at g;by_cases hm:2000<(y plain)
  .rw[if_pos hm]at g;have LS:2000<((y plain):Int):=by omega
   simp -implicitDefEqProofs only[go_sem,r,LS,wz,z1];exact⟨⟨_,_,by rw[g];rfl,⟨_,rfl,YL.nil _ _ _⟩,YL.nil _ _ _⟩,o⟩
  .rw[if_neg hm]at g;have LS:¬2000<((y plain):Int):=by omega
   have y1:V.hc g1 ⟨h.size,1,Q⟩=O (L D Z8):=by rw[Zr x0];rfl
   have y0:V.hc g1 ⟨h.size,0,Q⟩=O (A p (y kl) c):=by rw[Zr x0];rfl
   by_cases hf:Z8=1073741824
   .rw[if_pos hf]at g;have ax:(Z8=1073741824)=True:=eq_true hf;simp -implicitDefEqProofs only[go_sem,r,LS,y1,ax,wz,z1];exact⟨⟨_,_,by rw[g];rfl,⟨_,rfl,YL.nil _ _ _⟩,YL.nil _ _ _⟩,o⟩
   .rw[if_neg hf]at g;rw[g];obtain⟨n,rfl⟩:∃n:Nat,Z8=n:=⟨Z8.toNat,by omega⟩
    rw[W];simp -implicitDefEqProofs only[go_sem,r,LS,y1,hf];refine (gD T _ n (by omega)).use ?_;rintro vh j ⟨N,b2⟩;have z2:=b2.size;have G:=b2.get (by omega) x0;have a6:=b2.get (by omega) x1;have a4:V.hc j ⟨h.size,0,Q⟩=O (A p (y kl) c):=by rw[Zr G];rfl
    have Od:=Tb.trans (b2.mono Tb.size);have Lr:h.size<j.size:=by omega
    simp -implicitDefEqProofs only[go_sem];refine VS.z (j.size) [] (.p 0 (.q 1 (.p 2 (.p 4 (.p 5 (.s 3 (.s 6 (.p 7 (.p 8 (.p 9 (.p 10 (.p 11 .nil)))))))))))) mixed (by kernel_rfl) ?_;simp -implicitDefEqProofs only[go_sem,a4,Lr];refine (KT T _ _ _ N.bs (by simp[Jz])).use ?_;rintro vn g3 ⟨on,x⟩;have z3:=x.size;have aH:Zm j.size j g3=True:=eq_true x;simp -implicitDefEqProofs only[go_sem,aH];refine (Zgz T _ _ _ _ _ kl (UU (Jz n)) (Jz n) plain ((sk.YQ Od).YQ x) on.bs (N.bs.YQ x) ((sp.YQ Od).YQ x) ck on.cap).use ?_;rintro _ g4 ⟨⟨w4,rfl,o4⟩,b4⟩;have z4:=b4.size;have eS:QP (y kl) (UU (Jz n)).length (Jz n).length (y plain) 2000=0:=by
     unfold QP UU Jz;rw[if_neg];simp;omega
    rw[eS,if_pos rfl]at o4;rw[eS];have P:Zm j.size j g4:=x.trans (b4.mono z3);have aW:Zm j.size j g4=True:=eq_true P;have aS:=P.get (by omega) G;have aL:=P.get (by omega) a6;have rF:=Od.trans (P.mono Od.size);have rC:rd g4 ⟨h.size,0,Q⟩ 11=O (Ys (A p (y kl) c) n Yi s):=ZB aS Rm;simp -implicitDefEqProofs only[go_sem,aW,rC];refine (Zbs T _ _ kl n Yi s S (sk.YQ rF) (by omega)).use ?_;rintro _ f ⟨⟨w5,rfl,o5⟩,b5⟩;have z5:=b5.size;obtain⟨pw,a,rfl,_⟩:=o5.open;have aV:=b5.get (by omega) aL;have Fi:=Y7 (A pw (y kl) a) n Yi s S;have vZ:=Ja Fi;have oD:=Wo (p:=pw) (n:=(y kl)) (c:=a) n Yi s;have a9:∀v,XB [v,L D 0,L D 0,H false,H false,H false,H false,H false,H false,H false,H false] 0 (Ys (A pw (y kl) a) n Yi s)=Ys (A pw (y kl) a) n Yi s:=fun v=>Yf Fi;have nD:nth (Ys (A pw (y kl) a) n Yi s) 1=O (L D n):=rfl;have e1:(n:Int)+1=((n+1:Nat):Int):=rfl;have sD:(Ys (A pw (y kl) a) n Yi s).set 1 (L D ((n+1:Nat):Int))=Ys (A pw (y kl) a) ((n+1:Nat):Int) Yi s:=rfl;have C:=Y7 (A pw (y kl) a) ((n+1:Nat):Int) Yi s S;have a2:=Ja C;have a8:=Wo (p:=pw) (n:=(y kl)) (c:=a) ((n+1:Nat):Int) Yi s;simp -implicitDefEqProofs only[go_sem,Fi,vZ,oD,a9,nD,e1,sD];have rJ:rd (f.push (K (Ys (A pw (y kl) a) ((n+1:Nat):Int) Yi s).toArray 70)) ⟨f.size,0,Q⟩ 11=O (Ys (A pw (y kl) a) ((n+1:Nat):Int) Yi s):=ZB Zf C;have xJ:(f.push (K (Ys (A pw (y kl) a) ((n+1:Nat):Int) Yi s).toArray 70))[f.size]? = O (K (Ys (A pw (y kl) a) ((n+1:Nat):Int) Yi s).toArray 70):=Zf;have xZ:(f.push (K (Ys (A pw (y kl) a) ((n+1:Nat):Int) Yi s).toArray 70))[h.size+1]? = O (K (X Ti) 70):=by rw[ZX (by omega)];exact aV
    have a1:=rF.trans (b5.mono rF.size);have a0:Zm h.size h (f.push (K (Ys (A pw (y kl) a) ((n+1:Nat):Int) Yi s).toArray 70)):=a1.Xj a1.size _;have l:=(N.YQ (P.trans (b5.mono (by omega))) (U _)).push (K (Ys (A pw (y kl) a) ((n+1:Nat):Int) Yi s).toArray 70);have I:=o5.push (K (Ys (A pw (y kl) a) ((n+1:Nat):Int) Yi s).toArray 70);have m:=(o4.YQ b5 (U _)).push (K (Ys (A pw (y kl) a) ((n+1:Nat):Int) Yi s).toArray 70);have zJ:(f.push (K (Ys (A pw (y kl) a) ((n+1:Nat):Int) Yi s).toArray 70)).size=f.size+1:=by simp
    have Ye:=N.Zn.lt;have aX:=N.Zn.Yb;have b6:=o5.Zn.Yb;have b0:=o5.Zn.lt;have lS:(BW kl (UU (Jz n)) (Jz n) plain).length<=2016:=by
     have l1:=S4 kl 1 (UU (Jz n)) plain;have l2:(WR kl (UU (Jz n)) (Jz n) (KH kl 1 (UU (Jz n)) plain)).length<=16:=FE _ _;unfold BW;rw[am];omega
    have lh:(Jz n).length=4:=rfl;let⟨J,hJ⟩:=ZO (f.push (K (Ys (A pw (y kl) a) ((n+1:Nat):Int) Yi s).toArray 70));rw[<-hJ]at rJ xJ xZ a0 l I m zJ ⊢;clear hJ;have key:∀i h',YL g1.size 5 h' i (Jz n++BW kl (UU (Jz n)) (Jz n) plain)->Zm g1.size J h'->SK (Yq vh) J h' ->
      rd h' ⟨f.size,0,Q⟩ 11=O (Ys (A pw (y kl) a) ((n+1:Nat):Int) Yi s)/\wr h' ⟨h.size+1,0,Q⟩ (Ys (A pw (y kl) a) ((n+1:Nat):Int) Yi s)=O (M h' (h.size+1) (K (Ys (A pw (y kl) a) ((n+1:Nat):Int) Yi s).toArray 70)) /\
      (Zm (h.size+1) J h'=True)/\(Zm (h.size+1) J (M h' (h.size+1) (K (Ys (A pw (y kl) a) ((n+1:Nat):Int) Yi s).toArray 70))=True)/\h.size+1<h'.size /\
      YL h.size 5 (M h' (h.size+1) (K (Ys (A pw (y kl) a) ((n+1:Nat):Int) Yi s).toArray 70)) (A pw (y kl) a) kl /\
      YL h.size 5 (M h' (h.size+1) (K (Ys (A pw (y kl) a) ((n+1:Nat):Int) Yi s).toArray 70)) i (nc kl n plain) /\
      Zm h.size h (M h' (h.size+1) (K (Ys (A pw (y kl) a) ((n+1:Nat):Int) Yi s).toArray 70)):=by
     intro i h' IS t z;have F:=t.get (k:=h.size+1) (by omega) xZ;have a5:h'[f.size]? = O (K (Ys (A pw (y kl) a) ((n+1:Nat):Int) Yi s).toArray 70):=by
      rw[z.block f.size (by omega) (fun e=>by grind)];exact xJ
     have a7:=I.kY z (fun b hb e=>by grind);have a3:Zm (h.size+1) J h':=t.mono (by omega);exact⟨ZB a5 C,wrZ F C a8,eq_true a3,eq_true (a3.ZA (U _) _),Zb F,(a7.Ym (by omega) _).mono (by omega),(IS.Ym (by omega) _).mono (by omega),(a0.trans (t.mono (by omega))).ZA (by omega) _⟩
    refine VS.z (h.size+1) [] (.p 1 (.p 2 (.or 0 (.s 3 (.s 4 (.p 5 (.p 6 .nil)))) (.s 3 (.s 0 (.s 4 (.p 5 (.p 6 .nil)))))))) mixed (by kernel_rfl) ?_;simp -implicitDefEqProofs only[go_sem,rJ];refine⟨?_,?_⟩
    .refine ZP (E:=5) (B:=g1.size) XD R T8 SU SQ l (by omega) m.bs (by omega) ?_;intro i h' IS t z;let⟨k1,k2,k3,k4,k5,k6,k7,k8⟩:=key i h' IS t z;simp -implicitDefEqProofs only[go_sem,k1,k2,k3,k4,k5,C,a2];exact⟨⟨_,_,rfl,⟨_,rfl,k6⟩,k7⟩,k8⟩
    .refine ZP (E:=5) (B:=g1.size) XD R T8 SU SQ l (by omega) m.bs (by omega) ?_;intro i h' IS t z;let⟨k1,k2,k3,k4,k5,k6,k7,k8⟩:=key i h' IS t z;simp -implicitDefEqProofs only[go_sem,k1,k2,k3,k4,k5,C,a2];exact⟨⟨_,_,rfl,⟨_,rfl,k6⟩,k7⟩,k8⟩
 .rw[if_pos r]at g;have e5:=(KU (y kl) Z8 Yi s).resolve_left r;simp -implicitDefEqProofs only[go_sem,e5,wz,z1];exact⟨⟨_,_,by rw[g];rfl,⟨_,rfl,YL.nil _ _ _⟩,YL.nil _ _ _⟩,o⟩
def gF(Yi:Int)(s:List Bool)(n:Nat):Bool:=decide ((n:Int)<Yi-8)||(decide ((n:Int)<Yi)&&s.getD ((n:Int)-(Yi-8)).toNat false)
theorem ZkR(h:Hp)(k:aa)(Z8 Yi:Int)(s:List Bool)(n:Nat)(j:(y s)=8)(t0:0<=Yi)(m:Yi<=1073741824)(o:n<1073741824):
  Zg Z T 35 #[.agg (Ys k Z8 Yi s).toArray,L D n] h fun g h'=>g=H (gF Yi s n)/\Zm h.size h h':=by
 have d:=Y7 k Z8 Yi s j;have tk:=Ja d;have n2:nth (Ys k Z8 Yi s) 2=O (L D Yi):=rfl;refine Zg.X8 [_,_] Tryz.func35 ?_;unfold gF;by_cases a:(n:Int)<Yi-8
 .have c:decide ((n:Int)<Yi-8)=true:=decide_eq_true a;simp -implicitDefEqProofs only[go_sem,d,tk,n2,a,c,Bool.true_or]
 .have c:decide ((n:Int)<Yi-8)=false:=decide_eq_false a;by_cases b:(n:Int)<Yi
  .have e:decide ((n:Int)<Yi)=true:=decide_eq_true b;obtain⟨i,hi⟩:∃i:Nat,(n:Int)-(Yi-8)=i:=⟨((n:Int)-(Yi-8)).toNat,uh⟩
   have l:i<8:=uh;have f:(i:Int)<8:=uh;have n3:nth (Ys k Z8 Yi s) (3+i)=O (H (s.getD i false)):=by
    have:=Mj s i uh;rw[X2]at this ⊢;rw[<-this];show (k :: L D Z8 :: L D Yi :: s.map Value.bool)[3+i]? = _;rw[Nat.add_comm];rfl
   simp -implicitDefEqProofs only[go_sem,d,tk,n2,a,b,c,e,hi,f,W,n3,aw]
  .have e:decide ((n:Int)<Yi)=false:=decide_eq_false b;simp -implicitDefEqProofs only[go_sem,d,tk,n2,a,b,c,e,aw]
theorem nh(k:aa)(Z8 Yi:Int)(s t:List Bool)(b:(y s)=8)(a:(y t)=8):XB (Ys k Z8 Yi s) 3 (t.map Value.bool)=Ys k Z8 Yi t:=by
 have:=TV [k,L D Z8,L D Yi] (s.map Value.bool) (t.map Value.bool);rw[Yf (by simp[b,a])]at this;exact this
theorem ZgB(h:Hp)(k:aa)(kl:List Nat)(Z8 Yi:Int)(s:List Bool)(n:Nat)(P:(y s)=8)(sk:Bs h k kl)(hk:(y kl)<=140737488355328)(t0:0<=Yi)(t1:Yi<=1073741824)(hn:n<1073741824)(hm:¬(n:Int)<Yi-8):
  Zg Z T 38 #[.agg (Ys k Z8 Yi s).toArray,L D n] h fun v' h'=>aO h.size h' v' kl Z8 (max Yi (n+1)) (J4 (Oj Yi s 8++[(n:Int)]) (max Yi (n+1)))/\Zm h.size h h':=by
 obtain⟨p,c,rfl,_⟩:=sk.open;have Rm:=Y7 (A p (y kl) c) Z8 Yi s P;have tk:=Ja Rm;refine Zg.Kq [_,_] Tryz.func38 ?_;simp -implicitDefEqProofs only[go_sem,Rm,tk];have Pq:Zm h.size h ((h.push (K (Ys (A p (y kl) c) Z8 Yi s).toArray 70)).push (K (X Ti) 70)):=by (repeat' (first|exact Zm.refl _ _|assumption|refine Zm.add ?_ _|refine Zm.ZA ?_ (by first|omega|(simp;omega)) _|refine Zm.trans (by assumption) ?_))
 refine (Zbs T _ _ kl Z8 Yi s P (sk.YQ Pq) hk).use ?_;rintro _ g1 ⟨⟨w,rfl,o1⟩,b1⟩;have x0:g1[h.size]? = O (K (Ys (A p (y kl) c) Z8 Yi s).toArray 70):=b1.get (by grind) (by grind);have x1:g1[h.size+1]? = O (K (X Ti) 70):=b1.get (by grind) (by simp only[ao,al,aq,↓reduceIte]<;>rfl);have Tb:Zm h.size h g1:=Pq.trans (b1.mono (by simp;omega));have z1:=Zb x1;simp only[al]at o1;obtain⟨pw,d,rfl,_⟩:=o1.open;clear b1 Pq;have y2:V.hc g1 ⟨h.size,2,Q⟩=O (L D Yi):=by rw[Zr x0];rfl
 have Fi:=Y7 (A pw (y kl) d) Z8 Yi s P;have vZ:=Ja Fi;have oD:=Wo (p:=pw) (n:=(y kl)) (c:=d) Z8 Yi s;have a4:∀v,XB [v,L D 0,L D 0,H false,H false,H false,H false,H false,H false,H false,H false] 0 (Ys (A pw (y kl) d) Z8 Yi s)=Ys (A pw (y kl) d) Z8 Yi s:=fun v=>Yf Fi;have e1:(n:Int)+1=((n+1:Nat):Int):=rfl;obtain⟨a,a0⟩:∃a:Int,a=max Yi (n+1):=⟨_,rfl⟩
 have aH:(if ((n+1:Nat):Int)>Yi then ((n+1:Nat):Int) else Yi)=a:=by rw[a0];split<;>omega
 have sD:(Ys (A pw (y kl) d) Z8 Yi s).set 2 (L D a)=Ys (A pw (y kl) d) Z8 a s:=rfl;have ax:=Y7 (A pw (y kl) d) Z8 a s P;have lE:XB (Ys (A pw (y kl) d) Z8 a s) 3 [H false,H false,H false,H false,H false,H false,H false,H false]=Ys (A pw (y kl) d) Z8 a (J4 (Oj Yi s 0) a):=nh (A pw (y kl) d) Z8 a s QQ P rfl;have a2:rd g1 ⟨h.size,3,Q⟩ 8=O (s.map Value.bool):=by
  have IE:(s.map Value.bool).length=8:=by rw[List.length_map,P]
  have:=YZ x0 (o:=3) (n:=8) (by grind);rw[this];have e:(Ys (A p (y kl) c) Z8 Yi s).drop 3=s.map Value.bool:=rfl;rw[e,Ja IE]
 rw[<-a0];simp -implicitDefEqProofs only[go_sem,Fi,vZ,oD,a4,y2,e1,aH,sD,ax,lE,a2];obtain⟨f,C⟩:∃b,b=g1.size:=⟨_,rfl⟩
 let⟨J,t⟩:=ZO (g1.push (K (Ys (A pw (y kl) d) Z8 a (J4 (Oj Yi s 0) a)).toArray 70));have J5:J[f]? = O (K (Ys (A pw (y kl) d) Z8 a (J4 (Oj Yi s 0) a)).toArray 70):=by rw[t,C];exact Zf
 have J0:J[h.size]? = O (K (Ys (A p (y kl) c) Z8 Yi s).toArray 70):=by rw[t,ZX (by omega)];exact x0
 have J1:J[h.size+1]? = O (K (X Ti) 70):=by rw[t,ZX (by omega)];exact x1
 have JB:Zm h.size h J:=by rw[t];exact Tb.Xj Tb.size _
 have Jo:YL (h.size+1+1) 5 J (A pw (y kl) d) kl:=by rw[t];exact o1.push _
 have aX:∀b,Yq (A pw (y kl) d)=O b->b<f:=fun b hb=>by have:=o1.Zn.lt b hb;omega
 have aW:J.size=f+1:=by rw[t,al,C]
 rw[<-t,<-C];clear t;refine VS.YC (fun F g=>F 1=L D n/\F 2=ak (O ⟨h.size,0,Q⟩)/\F 4=ak (O ⟨h.size+1,0,Q⟩)/\F 5=ak (O ⟨f,0,Q⟩)/\F 20=.agg (s.map Value.bool).toArray/\∃i:Nat,i<=8/\F 21=L D i/\g=M J f (K (Ys (A pw (y kl) d) Z8 a (J4 (Oj Yi s i) a)).toArray 70))
  (fun F _=>8-(vi (F 21)).toNat) rfl ⟨rfl,rfl,rfl,rfl,rfl,0,by omega,rfl,(VI J5).symm⟩ ?_
 rintro F g ⟨f1,f2,I,E,f20,i,hi,f21,rfl⟩;have q:=YB (o:=K (Ys (A pw (y kl) d) Z8 a (J4 (Oj Yi s i) a)).toArray 70) J5;have LW:(M J f (K (Ys (A pw (y kl) d) Z8 a (J4 (Oj Yi s i) a)).toArray 70))[h.size]? = O (K (Ys (A p (y kl) c) Z8 Yi s).toArray 70):=by rw[Y,if_neg (by omega)];exact J0
 have l:=Rl (Oj Yi s i) a;have Jy:=vy Yi s i;let⟨u,r⟩:=ZO (J4 (Oj Yi s i) a);by_cases Ye:i<8
 .have Yh:(i:Int)<8:=by omega
  rw[<-r]at q LW l ⊢;let⟨G,hG⟩:=ZO (M J f (K (Ys (A pw (y kl) d) Z8 a u).toArray 70));rw[<-hG]at q LW ⊢;have n1:=Mj s i (by omega);have y2:V.hc G ⟨h.size,2,Q⟩=O (L D Yi):=by rw[Zr LW];rfl
  have S:V.hc G ⟨f,2,Q⟩=O (L D a):=by rw[Zr q];rfl
  let⟨b,hb⟩:=ZO (s.getD i false);rw[<-hb]at n1 Jy
  cases b with
  | false=>
   rw[if_neg (by decide),List.append_nil]at Jy;simp -implicitDefEqProofs only[go_sem,f1,f2,I,E,f20,f21,Yh,W,n1,y2,S];refine⟨⟨f1,f2,I,E,f20,i+1,Ye,rfl,?_⟩,?_⟩
   .grind
   .simp only[vi,Zu,↓reduceIte,f21];omega
  | true=>
   rw[if_pos rfl]at Jy;have m:=HU (Oj Yi s i) a (Yi-8+(i:Int)) (by omega);rw[<-Jy,<-r]at m;have ex:Yi-8+(i:Int)-a+8=Yi+(i:Int)-a:=by omega
   rw[ex]at m;by_cases z:0<=Yi+(i:Int)-a
   .rw[if_pos z]at m;obtain⟨j,hj⟩:∃j:Nat,Yi+(i:Int)-a=j:=⟨(Yi+(i:Int)-a).toNat,by omega⟩
    rw[hj,W]at m;have B:(j:Int)<8:=by omega
    have a7:(0:Int)<=(j:Int):=by omega
    have aV:j<8:=by omega
    have hlen:=Y7 (A pw (y kl) d) Z8 a u l;have w1:Uf G ⟨f,3+j,Q⟩ (H true)=O (M G f (K (Ys (A pw (y kl) d) Z8 a (u.set j true)).toArray 70)):=by
     rw[XZ q,if_pos ⟨by grind,rfl⟩,fy]
    simp -implicitDefEqProofs only[go_sem,f1,f2,I,E,f20,f21,Yh,W,n1,y2,S,hj,a7,B,w1];refine⟨⟨f1,f2,I,E,f20,i+1,Ye,rfl,?_⟩,?_⟩
    .grind
    .simp only[vi,Zu,↓reduceIte,f21];omega
   .rw[if_neg z]at m;simp -implicitDefEqProofs only[go_sem,f1,f2,I,E,f20,f21,Yh,W,n1,y2,S,z];refine⟨⟨f1,f2,I,E,f20,i+1,Ye,rfl,?_⟩,?_⟩
    .rw[m,hG]
    .simp only[vi,Zu,↓reduceIte,f21];omega
 .have XX:¬(i:Int)<8:=by omega
  obtain rfl:i=8:=by omega
  have c8:((8:Nat):Int)=8:=rfl;rw[c8]at f21 XX;have m:=HU (Oj Yi s 8) a (n:Int) (by omega);rw[if_pos (by omega),<-r]at m;have WH:(M J f (K (Ys (A pw (y kl) d) Z8 a (J4 (Oj Yi s 8) a)).toArray 70))[h.size+1]? = O (K (X Ti) 70):=by rw[Y,if_neg (by omega)];exact J1
  have HB:=JB.ZA (b:=f) (by omega) (K (Ys (A pw (y kl) d) Z8 a (J4 (Oj Yi s 8) a)).toArray 70);have HO:YL (h.size+1+1) 5 (M J f (K (Ys (A pw (y kl) d) Z8 a (J4 (Oj Yi s 8) a)).toArray 70)) (A pw (y kl) d) kl:=
   Jo.kY (x:=O f) ⟨by simp,fun b hb XU=>by grind⟩ (fun b hb e=>by grind)
  rw[<-r]at q WH HB HO l ⊢;obtain⟨j,hj⟩:∃j:Nat,(n:Int)-(a-8)=j:=⟨((n:Int)-(a-8)).toNat,by omega⟩
  have a6:(n:Int)-a+8=j:=by omega
  rw[a6,W]at m;have B:(j:Int)<8:=by omega
  have hlen:=Y7 (A pw (y kl) d) Z8 a u l;let⟨G,hG⟩:=ZO (M J f (K (Ys (A pw (y kl) d) Z8 a u).toArray 70));rw[<-hG]at q WH HB HO ⊢;have S:V.hc G ⟨f,2,Q⟩=O (L D a):=by rw[Zr q];rfl
  have w1:Uf G ⟨f,3+j,Q⟩ (H true)=O (M G f (K (Ys (A pw (y kl) d) Z8 a (u.set j true)).toArray 70)):=by
   rw[XZ q,if_pos ⟨by grind,rfl⟩,fy]
  rw[m];have a1:(u.set j true).length=8:=by rw[List.length_set];exact l
  let⟨N,a8⟩:=ZO (u.set j true);rw[<-a8]at w1 a1 ⊢;have rU:=Y7 (A pw (y kl) d) Z8 a N a1;have o2:=Wo (p:=pw) (n:=(y kl)) (c:=d) Z8 a N;have a3:=Ja rU;have a5:=YB (o:=K (Ys (A pw (y kl) d) Z8 a N).toArray 70) q;have rb:=ZB a5 rU;have a9:(M G f (K (Ys (A pw (y kl) d) Z8 a N).toArray 70))[h.size+1]? = O (K (X Ti) 70):=by rw[Y,if_neg (by omega)];exact WH
  have w2:=wrZ a9 rU o2;have k5:=Zb WH;have aL:YL (h.size+1+1) 5 (M G f (K (Ys (A pw (y kl) d) Z8 a N).toArray 70)) (A pw (y kl) d) kl:=
   HO.kY (x:=O f) ⟨by simp,fun b hb XU=>by rw[Y,if_neg (fun e=>XU (by rw[e]))]⟩ (fun b hb e=>by grind)
  have aS:=(HB.ZA (b:=f) (by omega) (K (Ys (A pw (y kl) d) Z8 a N).toArray 70)).ZA (b:=h.size+1) (by omega) (K (Ys (A pw (y kl) d) Z8 a N).toArray 70);simp -implicitDefEqProofs only[go_sem,f1,f2,I,E,f20,f21,XX,S,hj,B,W,w1,rb,w2,rU,a3,k5];exact⟨⟨_,rfl,(aL.Ym (by omega) _).mono (by omega)⟩,aS⟩
theorem Zcc{a b c d:Nat}(e:a<256)(hb:b<256)(hc:c<256)(i:d<256):Y1 .or D (Y1 .or D (Y1 .or D (XV D (a:Int) 24) (XV D (b:Int) 16)) (XV D (c:Int) 8)) (d:Int)=((16777216*a+65536*b+256*c+d:Nat):Int):=by
 have h:XV D (a:Int) 24=((a*16777216:Nat):Int):=R7 e 24 uh;have g:XV D (b:Int) 16=((b*65536:Nat):Int):=R7 hb 16 uh;have f:XV D (c:Int) 8=((c*256:Nat):Int):=R7 hc 8 uh;have f1:a*16777216 ||| b*65536=a*16777216+b*65536:=UT (k:=24) uh uh
 have f2:(a*16777216+b*65536) ||| c*256=a*16777216+b*65536+c*256:=UT (k:=16) uh uh
 rw[h,g,f,Lk _ _ uh uh,f1,Lk _ _ uh uh,f2,Lk _ _ uh uh,UT (k:=8) uh uh]
 grind
def RC(l:List Nat):Nat:=16777216*l.getD 0 0+65536*l.getD 1 0+256*l.getD 2 0+l.getD 3 0
theorem nj{l:List Nat}(w:∀x∈l,x<256)(f:4<=(y l)):Jz (RC l)=l.take 4:=by
 match l,f with
 | a :: b :: c :: d :: l,_=>
  have j:=w a zX;have i:=w b zX;have h:=w c zX;have g:=w d zX;show [_,_,_,_]=[a,b,c,d]
  have e:RC (a :: b :: c :: d :: l)=16777216*a+65536*b+256*c+d:=rfl;rw[e]
  congr 1
  .omega
  .congr 1
   .omega
   .congr 1
    .omega
    .congr 1
     omega
theorem ZkT{a b c d:Nat}(f:a<256)(hb:b<256)(hc:c<256)(e:d<256):16777216*a+65536*b+256*c+d<4294967296:=uh
theorem ZgC(l:List Nat):RC l=16777216*l.getD 0 0+65536*l.getD 1 0+256*l.getD 2 0+l.getD 3 0:=by unfold RC;rfl
def Tv(kl:List Nat)(Z8 Yi:Int)(s:List Bool)(rc:List Nat):Int:=
 if JJ (y kl) Z8 Yi s≠0 then 5 else if 2020<(y rc) then 1 else if (y rc)<20 then 13 else if 1073741824<=RC rc then 2 else
 if gF Yi s (RC rc)=true then 7 else KR kl (UU (Jz (RC rc))) (Jz (RC rc)) (rc.drop 4)
def rW(kl rc:List Nat):List Nat:=Zb9 kl (UU (Jz (RC rc))) (rc.drop 4)
def Gf(Yi:Int)(s:List Bool)(n:Nat):List Bool:=J4 (Oj Yi s 8++[(n:Int)]) (max Yi (n+1))
def bI(B:Nat)(h':Hp)(b:aa)(kl:List Nat)(Z8 Yi:Int)(s:List Bool)(rc:List Nat):Prop:=∃a w,b=.tuple [a,w,L D (Tv kl Z8 Yi s rc)].toArray /\
 rT B h' a (Tv kl Z8 Yi s rc) kl Z8 (max Yi (RC rc+1)) (Gf Yi s (RC rc))/\YL B 5 h' w (if Tv kl Z8 Yi s rc=0 then rW kl rc else [])
theorem Zcd{Yi:Int}{s:List Bool}{n:Nat}(h:¬gF Yi s n=true):¬(n:Int)<Yi-8:=by
 grind [gF]
theorem gG(h:Hp)(k u:aa)(kl rc:List Nat)(Z8 Yi:Int)(s:List Bool)(hs:(y s)=8)(sk:Bs h k kl)(sp:Bs h u rc)(ck:RT k)(cu:RT u):
  Zg Z T 20 #[.agg (Ys k Z8 Yi s).toArray,u] h fun v' h'=>bI h.size h' v' kl Z8 Yi s rc/\Zm h.size h h':=by
 have f:=sp.byte;obtain⟨p,c,rfl,_⟩:=sk.open;obtain⟨q,d,rfl,b⟩:=sp.Th;have cu:(y rc)<=d:=cu;have Rm:=Y7 (A p (y kl) c) Z8 Yi s hs;have tk:=Ja Rm;refine Zg.Kq [_,_] Tryz.func20 ?_;simp -implicitDefEqProofs only[go_sem,Rm,tk];have Pq:Zm h.size h ((h.push (K (Ys (A p (y kl) c) Z8 Yi s).toArray 70)).push (K (X Ti) 70)):=by (repeat' (first|exact Zm.refl _ _|assumption|refine Zm.add ?_ _|refine Zm.ZA ?_ (by first|omega|(simp;omega)) _|refine Zm.trans (by assumption) ?_))
 refine (Ky T _ p (y kl) c Z8 Yi s hs).use ?_;rintro _ g1 ⟨rfl,b1⟩;have x0:g1[h.size]? = O (K (Ys (A p (y kl) c) Z8 Yi s).toArray 70):=b1.get (by grind) (by grind);have x1:g1[h.size+1]? = O (K (X Ti) 70):=b1.get (by grind) (by simp only[ao,al,aq,↓reduceIte]<;>rfl);have j:Zm h.size h g1:=Pq.trans (b1.mono (by simp;omega));have z1:=Zb x1;clear b1 Pq;have a:Tv kl Z8 Yi s rc=if JJ (y kl) Z8 Yi s≠0 then 5 else if 2020<(y rc) then 1 else if (y rc)<20 then 13 else if 1073741824<=RC rc then 2 else
 if gF Yi s (RC rc)=true then 7 else KR kl (UU (Jz (RC rc))) (Jz (RC rc)) (rc.drop 4):=rfl
 unfold bI rT rW;have o:RC rc=16777216*rc.getD 0 0+65536*rc.getD 1 0+256*rc.getD 2 0+rc.getD 3 0:=ZgC rc;have h4:4<=(y rc)->Jz (RC rc)=rc.take 4:=fun hl=>nj f hl;let⟨E,hE⟩:=ZO (Tv kl Z8 Yi s rc);rw[<-hE]at a ⊢;clear hE;let⟨n,hn⟩:=ZO (RC rc);rw[<-hn]at a o h4 ⊢;clear hn;have wz:∀g:Hp,g[h.size+1]? = O (K (X Ti) 70)->wr g ⟨h.size+1,0,Q⟩ [A Q 0 0,L D 0,L D 0,H false,H false,H false,H false,H false,H false,H false,H false]=O (M g (h.size+1) (K [A Q 0 0,L D 0,L D 0,H false,H false,H false,H false,H false,H false,H false,H false].toArray 70)):=fun g hg=>wrZ hg rfl rfl;have e:∀g:Hp,Zm h.size h g->Zm h.size h (M g (h.size+1) (K #[A Q 0 0,L D 0,L D 0,H false,H false,H false,H false,H false,H false,H false,H false] 70)):=fun g hg=>hg.ZA (by omega) _;have l:=wz g1 x1;by_cases I:JJ (y kl) Z8 Yi s=0
 .let⟨hk,s0,s1,t0,t1⟩:=KV I;rw[if_neg (by simp[I])]at a;by_cases hm:2020<(y rc)
  .rw[if_pos hm]at a;have LS:2020<((y rc):Int):=by omega
   simp -implicitDefEqProofs only[go_sem,I,LS,l,z1];exact⟨⟨_,_,by rw[a];rfl,⟨_,rfl,YL.nil _ _ _⟩,YL.nil _ _ _⟩,e _ j⟩
  .rw[if_neg hm]at a;have LS:¬2020<((y rc):Int):=by omega
   by_cases gH:(y rc)<20
   .rw[if_pos gH]at a;have J:((y rc):Int)<20:=by omega
    simp -implicitDefEqProofs only[go_sem,I,LS,J,l,z1];exact⟨⟨_,_,by rw[a];rfl,⟨_,rfl,YL.nil _ _ _⟩,YL.nil _ _ _⟩,e _ j⟩
   .rw[if_neg gH]at a;have J:¬((y rc):Int)<20:=by omega
    obtain⟨bb,S,rfl,Sb,b⟩:=b (by grind);have u0:V.hc g1 ⟨bb,S+0,Q⟩=O (L .u8 (rc.getD 0 0:Nat)):=by rw[j.hc (by exact Sb)];exact b 0 (by omega)
    have u1:V.hc g1 ⟨bb,S+1,Q⟩=O (L .u8 (rc.getD 1 0:Nat)):=by rw[j.hc (by exact Sb)];exact b 1 (by omega)
    have u2:V.hc g1 ⟨bb,S+2,Q⟩=O (L .u8 (rc.getD 2 0:Nat)):=by rw[j.hc (by exact Sb)];exact b 2 (by omega)
    have u3:V.hc g1 ⟨bb,S+3,Q⟩=O (L .u8 (rc.getD 3 0:Nat)):=by rw[j.hc (by exact Sb)];exact b 3 (by omega)
    rw[Nat.add_zero]at u0;have w0:=Yn f 0;have w1:=Yn f 1;have w2:=Yn f 2;have w3:=Yn f 3;have h4:=h4 (by omega);have s4:=Mq sp (m:=4) (by omega) 4;rw[<-h4]at s4;generalize rc.getD 0 0=r0 at *;generalize rc.getD 1 0=r1 at *;generalize rc.getD 2 0=r2 at *;generalize rc.getD 3 0=r3 at *;have a5:Unit->_:=fun _=>a;clear a;have b6:n<4294967296:=by rw[o];exact ZkT w0 w1 w2 w3
    have d4:(4:Int)<=d:=by omega
    have sh:Unit->Y1 .or D (Y1 .or D (Y1 .or D (XV D (r0:Int) 24) (XV D (r1:Int) 16)) (XV D (r2:Int) 8)) (r3:Int)=(n:Int):=fun _=>by rw[Zcc w0 w1 w2 w3,o]
    clear o;simp -implicitDefEqProofs only[go_sem,I,LS,J,d4];refine VS.mono (N:=fun F g=>g1=g/\F 1=A (O ⟨bb,S,Q⟩) (y rc) d/\F 2=ak (O ⟨h.size,0,Q⟩)/\F 4=ak (O ⟨h.size+1,0,Q⟩)/\F 8=A (O ⟨bb,S,Q⟩) 4 4/\F 9=L D n) ?_ ?_ (fun _ _ _ h=>h) (fun _ _ h=>h)
    .refine VS.q mixed (by kernel_rfl) ?_;simp -implicitDefEqProofs only[go_sem,u0,u1,u2,u3];exact congrArg _ (sh ())
    clear sh w0 w1 w2 w3;have a:=a5 ();clear a5;rintro F _ ⟨rfl,f1,f2,w,v,t⟩;by_cases hb:1073741824<=n
    .rw[if_pos hb]at a;have QW:(1073741824:Int)<=(n:Int):=by clear a;omega
     simp -implicitDefEqProofs only[go_sem,f1,f2,w,v,t,QW,l,z1];exact⟨⟨_,_,by rw[a];rfl,⟨_,rfl,YL.nil _ _ _⟩,YL.nil _ _ _⟩,e _ j⟩
    .rw[if_neg hb]at a;have QW:¬(1073741824:Int)<=(n:Int):=by clear a;omega
     have rC:rd g1 ⟨h.size,0,Q⟩ 11=O (Ys (A p (y kl) c) Z8 Yi s):=ZB x0 Rm;simp -implicitDefEqProofs only[go_sem,f1,f2,w,v,t,QW,rC];refine (ZkR T _ _ Z8 Yi s n hs t0 t1 (by grind)).use ?_;rintro _ r ⟨rfl,b2⟩;have B:=b2.get (Nat.lt_of_succ_lt z1) x0;have z:=b2.get z1 x1;have z2:=b2.size;have Od:=j.trans (b2.mono j.size);have a9:=wz r z;have a1:=Zb z;by_cases i:gF Yi s n=true
     .rw[if_pos i]at a;simp -implicitDefEqProofs only[go_sem,f1,f2,w,v,t,i,a9,a1];exact⟨⟨_,_,by rw[a];rfl,⟨_,rfl,YL.nil _ _ _⟩,YL.nil _ _ _⟩,e _ Od⟩
     .rw[if_neg i]at a;have aW:=Zcd i;have aX:gF Yi s n=false:=by simpa using i
      have y0:V.hc r ⟨h.size,0,Q⟩=O (A p (y kl) c):=by rw[Zr B];rfl
      have a2:=Zb B;have l4:(Jz n).length=4:=rfl;have b0:(UU (Jz n)).length<=1000:=by simp[UU,Jz]
      have ax:=Mk sp rfl (k:=4) (by omega) cu (d-4);have aV:(4:Int)<=(y rc):=by clear a;omega
      simp -implicitDefEqProofs only[go_sem,f1,f2,w,v,t,aX];refine VS.z (r.size) [] (.p 0 (.q 1 (.p 2 (.p 4 (.p 5 (.p 6 (.s 3 (.s 7 (.p 8 (.p 9 (.p 10 (.p 11 (.p 12 .nil))))))))))))) mixed (by kernel_rfl) ?_;simp -implicitDefEqProofs only[go_sem,f1,f2,w,v,t,y0,a2,aV,Vj];refine (KT T _ _ _ (s4.YQ Od) (by grind)).use ?_;rintro vn g3 ⟨on,b3⟩;have z3:=b3.size;have aS:Zm r.size r g3=True:=eq_true b3;have G:=Od.trans (b3.mono Od.size);simp -implicitDefEqProofs only[go_sem,f1,f2,w,v,t,aS];refine (ZgA T _ _ _ _ _ kl (UU (Jz n)) (Jz n) (rc.drop 4) (sk.YQ G) on.bs (s4.YQ G) (ax.YQ G) ck on.cap (show (y rc)-4<=d-4 by omega)).use ?_;rintro _ g4 ⟨⟨w4,rfl,o4⟩,b4⟩;have z4:=b4.size;have jZ:Zm r.size r g4:=b3.trans (b4.mono z3);have P:Zm r.size r g4=True:=eq_true jZ;rw[<-a]at o4 ⊢;have x:=jZ.get a1 z;have a7:=jZ.get a2 B;have rF:=Od.trans (jZ.mono Od.size);have a8:=wz g4 x;have a0:=Zb x;clear a;by_cases C:E=0
      .subst C;rw[if_pos rfl]at o4;have aH:rd g4 ⟨h.size,0,Q⟩ 11=O (Ys (A p (y kl) c) Z8 Yi s):=ZB a7 Rm;simp -implicitDefEqProofs only[go_sem,f1,f2,w,v,t,P,aH];refine (ZgB T _ _ kl Z8 Yi s n hs (sk.YQ rF) (by omega) t0 t1 (by omega) aW).use ?_;rintro _ g5 ⟨⟨w5,rfl,o5⟩,b5⟩;have a3:=b5.get a0 x;have z5:=b5.size;obtain⟨pw,cw,rfl,_⟩:=o5.open;have l8:(Gf Yi s n).length=8:=Rl _ _;have Fi:=Y7 (A pw (y kl) cw) Z8 (max Yi ((n:Int)+1)) (Gf Yi s n) l8;have oD:=Wo (p:=pw) (n:=(y kl)) (c:=cw) Z8 (max Yi ((n:Int)+1)) (Gf Yi s n);have vZ:=Ja Fi;have wD:=wrZ a3 Fi oD;have a6:=Zb a3;rw[show J4 (Oj Yi s 8++[(n:Int)]) (max Yi ((n:Int)+1))=Gf Yi s n from rfl];have aL:=o4.YQ b5 (U _);let⟨C5,a4⟩:=ZO (Ys (A pw (y kl) cw) Z8 (max Yi ((n:Int)+1)) (Gf Yi s n));rw[<-a4]at Fi oD vZ wD ⊢;simp -implicitDefEqProofs only[go_sem,f1,f2,w,v,t,P,wD,Fi,vZ,a6];exact⟨⟨_,_,rfl,⟨_,by rw[a4],(o5.Ym (by omega) _).mono (by omega)⟩,(aL.Ym (by omega) _).mono (by omega)⟩,(rF.trans (b5.mono rF.size)).ZA (by omega) _⟩
      .rw[if_neg C]at o4;simp -implicitDefEqProofs only[go_sem,f1,f2,w,v,t,P,C,a8,a0];exact⟨⟨_,_,rfl,⟨_,rfl,YL.nil _ _ _⟩,YL.nil _ _ _⟩,e _ rF⟩
 .rw[if_pos I]at a;have e5:=(KU (y kl) Z8 Yi s).resolve_left I;simp -implicitDefEqProofs only[go_sem,e5,l,z1];exact⟨⟨_,_,by rw[a];rfl,⟨_,rfl,YL.nil _ _ _⟩,YL.nil _ _ _⟩,e _ j⟩
end Go.Proofs.YtkhkmpfenaipaaaGreatDoor
