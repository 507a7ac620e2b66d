/- Syncing a tape, and what a crash leaves of it: what the program computes; no condition but those in the statements. -/
import Derived.Test.YtboeoomhjbcecaaGreatDoorTape
import Derived.Test.YtboeoomhjbcecaaGreatDoorW12
import Derived.Test.YtboeoomhjbcecaaGreatDoorLchks
namespace Go.Proofs.YtboeoomhjbcecaaGreatDoor
open Go Go.V
set_option linter.unusedSimpArgs false
set_option linter.unusedVariables false
set_option maxRecDepth 100000
def ag (B:Nat) (h':Hp) (v':Value) (l:List Nat) (n:Int):Prop:=
 if l.length≤100000∧0≤n∧n≤l.length then ∃w,v'=.tuple [.agg [w,.int .i64 l.length].toArray,.int .i64 0].toArray∧Z0 B 5 h' w l
 else v'=.tuple [.agg [.slice none 0 0,.int .i64 0].toArray,.int .i64 5].toArray
theorem vA (T:World) (h:Hp) (v:Value) (n:Int) (l:List Nat) (s:Bs h v l) (hl:l.length≤140737488355328) :
  Zc Tryz.prog T 48 #[.agg [v,.int .i64 n].toArray] h fun v' h'=>Zf h.size h h'∧ag h.size h' v' l n:=by
 obtain⟨p,c,rfl,Us⟩:=s.open;refine Zc.Zk (args:=[_]) Tryz.func48 rfl rfl rfl rfl ?_;simp +contextual -implicitDefEqProofs only[go_sem,↓reduceIte];refine (QB T _ _ n l (s.Z2 (((Zf.refl _ _).add _).add _)) hl).use ?_;rintro v1 h1 ⟨b1,o1⟩;have z1:h.size+1<h1.size:=by have:=b1.size;simp at this;omega
 have r1:=b1.get (k:=h.size+1) (by simp) (by rw[Array.getElem?_push,if_pos (by simp)]);have w1:=ZU r1;have bb:Zf h.size h h1:=((Zf.refl _ _).add _).add _ |>.trans (b1.mono (by simp;omega))
 unfold ag;by_cases q:l.length≤100000∧0≤n∧n≤l.length
 ·rw[if_pos q]at o1;obtain⟨w,rfl,o1⟩:=o1;obtain⟨p1,c1,rfl,_⟩:=o1.bs.open;simp +contextual -implicitDefEqProofs only[go_sem,↓reduceIte,w1,z1];refine⟨(bb.Zm (by omega) _).add _,_,rfl,?_⟩;exact ((o1.ZP (by simp) _).push _).mono (by simp;omega)
 ·rw[if_neg q]at o1;subst o1;simp +contextual -implicitDefEqProofs only[go_sem,↓reduceIte,w1,z1];exact (bb.Zm (by omega) _).add _
def Jq (l:List Nat) (n k:Int):Int:=n+(if (l.length:Int)-n<k then (l.length:Int)-n else k)
def Ss (l:List Nat) (n k:Int):List Nat × Int × Int:=
 if l.length≤100000∧0≤n∧n≤l.length then (if k<0 then ([],0,2) else (l.take (Jq l n k).toNat,Jq l n k,0)) else ([],0,5)
def dO (B:Nat) (h':Hp) (v':Value) (r:List Nat × Int × Int):Prop:=
 ∃p c L Z E,r=(L,Z,E)∧v'=.tuple [.agg [.slice p L.length c,.int .i64 Z].toArray,.int .i64 E].toArray∧Bs h' (.slice p L.length c) L∧L.length≤c∧∀b,ZO (.slice p L.length c)=some b→B≤b∧b<h'.size
theorem oH (T:World) (h:Hp) (v:Value) (n k:Int) (l:List Nat) (s:Bs h v l) (hl:l.length≤140737488355328) :
  Zc Tryz.prog T 35 #[.agg [v,.int .i64 n].toArray,.int .i64 k] h fun v' h'=>Zf h.size h h'∧dO h.size h' v' (Ss l n k):=by
 obtain⟨p,c,rfl,Us⟩:=s.open;refine Zc.Zk (args:=[_,_]) Tryz.func35 rfl rfl rfl rfl ?_;simp +contextual -implicitDefEqProofs only[go_sem,↓reduceIte];refine (QB T _ _ n l (s.Z2 (((Zf.refl _ _).add _).add _)) hl).use ?_;rintro v1 h1 ⟨b1,o1⟩;have z1:h.size+1<h1.size:=by have:=b1.size;simp at this;omega
 have r1:=b1.get (k:=h.size+1) (by simp) (by rw[Array.getElem?_push,if_pos (by simp)]);have w1:=ZU r1;have bb:Zf h.size h h1:=((Zf.refl _ _).add _).add _ |>.trans (b1.mono (by simp;omega))
 unfold Ss;by_cases q:l.length≤100000∧0≤n∧n≤l.length
 ·rw[if_pos q]at o1;obtain⟨w,rfl,o1⟩:=o1;obtain⟨p1,c1,rfl,g1⟩:=o1.open;by_cases q1:k<0
  ·simp +contextual -implicitDefEqProofs only[go_sem,↓reduceIte,w1,z1,q1];exact⟨(bb.Zm (by omega) _).add _,none,0,[],_,_,rfl,rfl,(Z0.nil 0 5 _).bs,Nat.le_refl _,fun b hb=>by simp[ZO]at hb⟩
  ·have e1:0≤Jq l n k∧Jq l n k≤l.length:=by unfold Jq;split<;>omega
   have e2:(n+(if (l.length:Int)-n<k then (l.length:Int)-n else k))=Jq l n k:=rfl;have e3:((Jq l n k).toNat:Int)=Jq l n k:=by omega
   have e4:(l.take (Jq l n k).toNat).length=(Jq l n k).toNat:=by rw[List.length_take];omega
   simp +contextual -implicitDefEqProofs only[go_sem,↓reduceIte,w1,z1,q1,e2,e3];refine⟨(bb.Zm (by omega) _).add _,p1,(Jq l n k).toNat,_,_,_,rfl,by rw[e4],?_⟩;rw[e4];have o2:=(o1.ZP (b:=h.size+1) (o:=.cells [.slice p1 l.length c1,.int .i64 n].toArray 76) (by simp)).push (.cells [.slice none 0 0,.int .i64 0].toArray 76);refine⟨(((o1.ZP (by simp) _).push _).bs).Rl (by omega) _,Nat.le_refl _,fun b hb=>?_⟩;have Lr:ZO (.slice p1 l.length c1)=some b:=by
    cases p1 with
    | none=>simp[ZO]at hb
    | some A=>
     by_cases z:(Jq l n k).toNat=0
     ·rw[z]at hb;simp[ZO]at hb
     ·have dm:c1≠0:=by have:=g1;omega
      simp[ZO,z]at hb;simp[ZO,dm,hb]
   have h1b:=o1.own.ZG b Lr;have h2b:=o1.own.lt b Lr;simp only[Array.size_push,Array.size_setIfInBounds];simp at h1b;omega
 ·rw[if_neg q]at o1;subst o1;simp +contextual -implicitDefEqProofs only[go_sem,↓reduceIte,w1,z1];exact⟨(bb.Zm (by omega) _).add _,none,0,[],_,_,rfl,rfl,(Z0.nil 0 5 _).bs,Nat.le_refl _,fun b hb=>by simp[ZO]at hb⟩
def Vp (key:List Nat) (k:Int) (Zs:List Nat) (n:Nat):Int:=if XN key k Zs≠0 then XN key k Zs else if 2000<n then 1 else 0
def Zby (key:List Nat) (k:Nat) (Zs data:List Nat) (i:Nat):Nat:=data.getD i 0 ^^^ (Xw key (k+i/64) Zs).getD (i%64) 0
def Oz (key:List Nat) (k:Nat) (Zs data:List Nat):List Nat:=(List.range data.length).map (Zby key k Zs data)
theorem Mw (key:List Nat) (k:Nat) (Zs:List Nat) (i:Nat):(Xw key k Zs).getD i 0<256:=ZI (KD _ _) i
theorem oI {a b:Nat} (ha:a<256) (hb:b<256):a ^^^ b<256:=Nat.xor_lt_two_pow (n:=8) ha hb
theorem Vc (key:List Nat) (k:Nat) (Zs data:List Nat):(Oz key k Zs data).length=data.length:=by simp[Oz]
theorem iz {key:List Nat} {k:Nat} {Zs data:List Nat} (hd:∀x∈data,x<256):∀x∈Oz key k Zs data,x<256:=by
 intro x hx;obtain⟨i,_,rfl⟩:=List.mem_map.1 hx;exact oI (ZI hd _) (Mw _ _ _ _)
theorem iA {key:List Nat} {k:Nat} {Zs data:List Nat} {i:Nat} (hi:i<data.length):(Oz key k Zs data).getD i 0=Zby key k Zs data i:=KC _ hi
def oJ (B:Nat) (h':Hp) (v':Value) (key:List Nat) (k:Int) (Zs data:List Nat):Prop:=∃w,v'=.tuple [w,.int .i64 (Vp key k Zs data.length)].toArray∧Z0 B 5 h' w (if Vp key k Zs data.length=0 then Oz key k.toNat Zs data else [])
theorem Hm {key:List Nat} {k:Int} {Zs:List Nat} (e:XN key k Zs=0):key.length=32∧Zs.length=12∧0≤k∧k≤1073741824:=by
 unfold XN at e
 repeat' split at e
 all_goals first|omega|cases e
theorem ah (n:Nat):X2 n [Value.int .u8 0]=(List.replicate n 0).map bv:=by
 induction n with
 | zero=>rfl
 | succ n ih=>rw[X2,ih];rfl
theorem oK (T:World) (h:Hp) (v u d:Value) (key Zs data:List Nat) (k:Int) (sk:Bs h v key) (sn:Bs h u Zs) (sd:Bs h d data) (ck:VR v) (cn:VR u) :
  Zc Tryz.prog T 113 #[v,.int .i64 k,u,d] h fun v' h'=>oJ h.size h' v' key k Zs data∧Zf h.size h h':=by
 obtain⟨p,c,rfl,_⟩:=sk.open;obtain⟨q,cn',rfl,_⟩:=sn.open;obtain⟨pd,cd,rfl,hcd⟩:=sd.UL;refine Zc.Zk (args:=[_,_,_,_]) Tryz.func113 rfl rfl rfl rfl ?_;unfold oJ;simp +contextual -implicitDefEqProofs only[go_sem,↓reduceIte];refine (Mu T _ _ _ _ _ _ _ _).pure ?_;rw[show (if key.length≠32∨Zs.length≠12 then (1:Int) else if k<0∨1073741824<k then 2 else 0)=XN key k Zs from rfl];by_cases e:XN key k Zs=0
 ·by_cases el:2000<data.length
  ·have el':2000<(data.length:Int):=by omega
   have em:Vp key k Zs data.length=1:=by unfold Vp;rw[if_neg (by rw[e];decide),if_pos el]
   simp +contextual -implicitDefEqProofs only[go_sem,↓reduceIte,e,el',em];exact⟨_,rfl,Z0.nil _ _ _⟩
  ·have el':¬2000<(data.length:Int):=by omega
   have em:Vp key k Zs data.length=0:=by unfold Vp;rw[if_neg (by rw[e];decide),if_neg el]
   obtain⟨hk,hn,k0,k1⟩:=Hm e;obtain⟨m,rfl⟩:∃m:Nat,k=m:=⟨k.toNat,by omega⟩
   rw[em,Int.toNat_natCast];obtain⟨X,hX⟩:=Zx (Oz key m Zs data);have hXl:X.length=data.length:=by rw[hX,Vc]
   have hXb:∀x∈X,x<256:=by rw[hX];exact iz sd.byte
   have zy:X.length=(List.replicate data.length 0).length:=by simp[hXl]
   have xl:∀j,(X.take j++(List.replicate data.length 0).drop j).length=data.length:=fun j=>by simp[hXl];omega
   rw[←hX];simp +contextual -implicitDefEqProofs only[go_sem,↓reduceIte,e,el',ah];obtain⟨G,hG⟩:=Zx (h.push (.cells ((List.replicate data.length 0).map bv).toArray 5):Hp);have S6:G[h.size]? = some (.cells ((X.take (64*0)++(List.replicate data.length 0).drop (64*0)).map bv++[]).toArray 5):=by
    rw[hG,Nat.mul_zero,HW,List.append_nil];exact Zb
   have kU:Zf h.size h G:=by rw[hG];exact Zf.push (Nat.le_refl _) _
   rw[←hG];clear hG;refine VS.ZW (fun F g=>Zf h.size h g∧F 0=.slice p key.length c∧F 1=.int .i64 m∧F 2=.slice q Zs.length cn'∧F 3=.slice pd data.length cd∧F 11=.slice (some ⟨h.size,0,none⟩) data.length data.length∧∃j:Nat,64*j<data.length+64∧F 12=.int .i64 (64*j:Nat)∧g[h.size]? = some (.cells ((X.take (64*j)++(List.replicate data.length 0).drop (64*j)).map bv++[]).toArray 5))
    (fun F _=>data.length+64-(vi (F 12)).toNat) rfl ⟨kU,rfl,rfl,rfl,rfl,rfl,0,by omega,rfl,S6⟩ ?_
   clear S6 kU G;rintro F g ⟨hg,f0,f1,f2,f3,f11,j,hj,f12,hx⟩;have T7:=Za hx;by_cases ZD:64*j<data.length
   ·have ZL:((64*j:Nat):Int)<data.length:=by omega
    have d1:((64*j:Nat):Int).tdiv 64=(j:Int):=by
     have:((64*j:Nat):Int).tdiv 64=((64*j/64:Nat):Int):=rfl;rw[this];omega
    have d2:(m:Int)+(j:Int)=((m+j:Nat):Int):=by omega
    have d3:((m+j:Nat):Int)%4294967296=((m+j:Nat):Int):=by omega
    simp +contextual -implicitDefEqProofs only[go_sem,↓reduceIte,f0,f1,f2,f3,f12,ZL,d1,d2,d3];refine (Ox T _ _ _ key Zs (m+j) (sk.Z2 hg) (sn.Z2 hg) hk hn (by omega) ck cn).use ?_;rintro _ g1 ⟨rfl,b1⟩;have KF:((Xw key (m+j) Zs).map bv).length=64:=by simp[Xw,Hj]
    have Xc:=TA (Xw key (m+j) Zs);have hlb:(Xw key (m+j) Zs).length=64:=by simpa using KF
    have QL:=b1.get T7 hx;have Ul:=hg.trans (b1.mono hg.size);have b1s:=b1.size;obtain⟨W,hW⟩:=Zx (Xw key (m+j) Zs);have hWb:∀i,W.getD i 0<256:=fun i=>by rw[hW];exact Mw _ _ _ _
    rw[←hW]at KF Xc hlb ⊢;simp +contextual -implicitDefEqProofs only[go_sem,↓reduceIte,KF,Xc,ZJ,f12];have zC:(g1.push (.cells (W.map bv++[]).toArray 224))[g1.size]? = some (.cells (W.map bv++[]).toArray 224):=Zb;rw[List.append_nil]at zC;have Pe:(g1.push (.cells (W.map bv).toArray 224))[h.size]? = some (.cells ((X.take (64*j)++(List.replicate data.length 0).drop (64*j)).map bv++[]).toArray 5):=by rw[Zt (by omega)];exact QL
    have Sa:Zf h.size h (g1.push (.cells (W.map bv).toArray 224)):=Ul.Yi (by omega) _;generalize g1.push (.cells (W.map bv).toArray 224)=G at *;refine VS.ZW (fun F g=>Zf h.size h g∧F 0=.slice p key.length c∧F 1=.int .i64 m∧F 2=.slice q Zs.length cn'∧F 3=.slice pd data.length cd∧F 11=.slice (some ⟨h.size,0,none⟩) data.length data.length∧F 12=.int .i64 (64*j:Nat)∧F 13=.pointer (some ⟨g1.size,0,none⟩)∧g[g1.size]? = some (.cells (W.map bv).toArray 224)∧∃i:Nat,64*j≤i∧i≤64*j+64∧i≤data.length∧F 14=.int .i64 i∧g[h.size]? = some (.cells ((X.take i++(List.replicate data.length 0).drop i).map bv++[]).toArray 5))
     (fun F _=>data.length-(vi (F 14)).toNat) rfl ⟨Sa,f0,f1,f2,f3,f11,f12,rfl,zC,64*j,by omega,by omega,by omega,rfl,Pe⟩ ?_
    clear f0 f1 f2 f3 f11 f12 zC Pe QL Sa hx Ul;rintro F g2 ⟨QW,f0,f1,f2,f3,f11,f12,f13,zC,i,i1,i2,i3,f14,hx⟩;by_cases Nw:i<64*j+64∧i<data.length
    ·obtain⟨l1,l2⟩:=Nw;obtain⟨bd,od,rfl,ai,hcd⟩:=hcd (by intro e;rw[e]at ZD;simp at ZD);have oL:(i:Int)<min (((64*j:Nat):Int)+64) (data.length:Int):=by omega
     have u1:V.hc g2 ⟨bd,od+i,none⟩=some (.int .u8 (data.getD i 0:Nat)):=by rw[QW.hc (by exact ai)];exact hcd i l2
     have hik:i-64*j<64:=by omega
     have u2:V.hc g2 ⟨g1.size,i-64*j,none⟩=some (.int .u8 (W.getD (i-64*j) 0:Nat)):=by
      rw[←List.append_nil (W.map bv)]at zC;exact ZN zC (i:=i-64*j) (by omega)
     have t1:(i:Int)-((64*j:Nat):Int)=((i-64*j:Nat):Int):=by omega
     have xb:=ZI sd.byte i;have ex:=Fb (data.getD i 0) (W.getD (i-64*j) 0) xb (hWb _);have exX:X.getD i 0=data.getD i 0 ^^^ W.getD (i-64*j) 0:=by
      rw[hX,iA l2,hW];unfold Zby;rw[show i/64=j by omega,show i%64=i-64*j by omega]
     rw[←exX]at ex;have cs:JJ g2 ⟨h.size,i,none⟩ (.int .u8 (X.getD i 0:Nat))=_:=Z1 (f:=bv) hx (i:=i) (by rw[xl];exact l2) _ rfl;rw[JR X _ i (by omega) zy]at cs;simp +contextual -implicitDefEqProofs only[go_sem,↓reduceIte,f3,f12,f14,oL];have l2':(i:Int)<data.length:=by omega
     have t1':0≤(i:Int)-((64*j:Nat):Int):=by omega
     refine VS.w (g2.size) [13] (.q 0 (.q 1 (.q 2 (.q 3 (.q 4 (.q 5 (.q 6 (.q 7 (.q 8 (.q 9 (.q 10 (.q 11 (.q 12 (.w 13 .nil)))))))))))))) mixed (by kernel_rfl) ?_;have ZnK:bd<g2.size:=Nat.lt_of_lt_of_le ai QW.size;have hgw:=Za zC;simp +contextual -implicitDefEqProofs only[go_sem,↓reduceIte,f3,f11,f12,f13,f14,t1,ZnK,hgw,u1,u2,ex,cs];refine⟨⟨QW.Zm (Nat.le_refl _) _,f0,f1,f2,f3,f11,f12,f13,?_,i+1,by omega,by omega,by omega,rfl,?_⟩,?_⟩
     ·rw[Array.getElem?_setIfInBounds,if_neg (by omega)];exact zC
     ·exact ZT hx
     ·simp only[vi,Zi,↓reduceIte,f14];omega
    ·have oL:¬(i:Int)<min (((64*j:Nat):Int)+64) (data.length:Int):=by omega
     simp +contextual -implicitDefEqProofs only[go_sem,↓reduceIte,f3,f12,f14,oL];have e12:((64*j:Nat):Int)+64=((64*(j+1):Nat):Int):=by omega
     refine⟨⟨QW,f0,f1,f2,f3,f11,j+1,by omega,by rw[←e12];rfl,?_⟩,?_⟩
     ·by_cases c1:i=64*j+64
      ·rw[show 64*(j+1)=i by omega];exact hx
      ·have e3:i=data.length:=by omega
       rw[List.take_of_length_le (show X.length≤64*(j+1) by omega),List.drop_of_length_le (show (List.replicate data.length 0).length≤64*(j+1) by simp;omega)];rw[List.take_of_length_le (show X.length≤i by omega),List.drop_of_length_le (show (List.replicate data.length 0).length≤i by simp;omega)]at hx;exact hx
     ·simp only[vi,Zi,↓reduceIte,f12];omega
   ·have YJ:¬((64*j:Nat):Int)<data.length:=by omega
    have e1:X.take (64*j)=X:=List.take_of_length_le (by omega);have e2:(List.replicate data.length 0).drop (64*j)=[]:=List.drop_of_length_le (by simp;omega);rw[e1,e2,List.append_nil,List.append_nil]at hx;simp +contextual -implicitDefEqProofs only[go_sem,↓reduceIte,f3,f11,f12,YJ,hg];refine⟨_,rfl,⟨.inr ⟨h.size,data.length,[],Nat.le_refl _,by rw[hXl],by rw[List.append_nil];exact hx,by simp,by rw[hXl];simp,by rw[hXl];exact Nat.le_refl _⟩,hXb⟩⟩
 ·have em:Vp key k Zs data.length=XN key k Zs:=by unfold Vp;rw[if_pos e]
  rw[em];simp +contextual -implicitDefEqProofs only[go_sem,↓reduceIte,e];exact⟨_,rfl,Z0.nil _ _ _⟩
end Go.Proofs.YtboeoomhjbcecaaGreatDoor
