/- Syncing a tape, and what a crash leaves of it: what the program computes; no condition but those in the statements. -/
import Derived.Test.YtpomedigibbeeaaGreatDoorTape
import Derived.Test.YtpomedigibbeeaaGreatDoorW12
import Derived.Test.YtpomedigibbeeaaGreatDoorLchks
namespace Go.Proofs.YtpomedigibbeeaaGreatDoor
open Go Go.V
set_option linter.unusedSimpArgs false
set_option linter.unusedVariables false
set_option maxRecDepth 100000
def Ag (B:Nat) (h':Hp) (v':Value) (l:List Nat) (n:Int):Prop:=
 if l.length≤100000∧0≤n∧n≤l.length then ∃w,v'=.tuple [.agg [w,.int .i64 l.length].toArray,.int .i64 0].toArray∧Z0 B 5 h' w l
 else v'=.tuple [.agg [.slice none 0 0,.int .i64 0].toArray,.int .i64 5].toArray
theorem tE (T:World) (h:Hp) (v:Value) (n:Int) (l:List Nat) (s:Bs h v l) (hl:l.length≤140737488355328) :
  Zd Tryz.prog T 77 #[.agg [v,.int .i64 n].toArray] h fun v' h'=>Zg h.size h h'∧Ag h.size h' v' l n:=by
 obtain⟨p,c,rfl,UF⟩:=s.open
 refine Zd.Zj (args:=[_]) Tryz.func77 rfl rfl rfl rfl ?_
 simp +contextual -implicitDefEqProofs only[go_sem,↓reduceIte]
 refine (Qm T _ _ n l (s.Ya (((Zg.refl _ _).add _).add _)) hl).use ?_
 rintro v1 h1 ⟨b1,o1⟩
 have z1:h.size+1<h1.size:=by have:=b1.size;simp at this;omega
 have r1:=b1.get (k:=h.size+1) (by simp) (by rw[Array.getElem?_push,if_pos (by simp)])
 have w1:=ZS r1
 have bb:Zg h.size h h1:=((Zg.refl _ _).add _).add _ |>.trans (b1.mono (by simp;omega))
 unfold Ag
 by_cases q:l.length≤100000∧0≤n∧n≤l.length
 ·rw[if_pos q]at o1
  obtain⟨w,rfl,o1⟩:=o1
  obtain⟨p1,c1,rfl,_⟩:=o1.bs.open
  simp +contextual -implicitDefEqProofs only[go_sem,↓reduceIte,w1,z1]
  refine⟨(bb.Zl (by omega) _).add _,_,rfl,?_⟩
  exact ((o1.ZT (by simp) _).push _).mono (by simp;omega)
 ·rw[if_neg q]at o1
  subst o1
  simp +contextual -implicitDefEqProofs only[go_sem,↓reduceIte,w1,z1]
  exact (bb.Zl (by omega) _).add _
def Jd (l:List Nat) (n k:Int):Int:=n+(if (l.length:Int)-n<k then (l.length:Int)-n else k)
def Sb (l:List Nat) (n k:Int):List Nat × Int × Int:=
 if l.length≤100000∧0≤n∧n≤l.length then (if k<0 then ([],0,2) else (l.take (Jd l n k).toNat,Jd l n k,0)) else ([],0,5)
def cy (B:Nat) (h':Hp) (v':Value) (r:List Nat × Int × Int):Prop:=
 ∃p c L Z E,r=(L,Z,E)∧v'=.tuple [.agg [.slice p L.length c,.int .i64 Z].toArray,.int .i64 E].toArray∧Bs h' (.slice p L.length c) L∧L.length≤c∧∀b,ZO (.slice p L.length c)=some b→B≤b∧b<h'.size
theorem mK (T:World) (h:Hp) (v:Value) (n k:Int) (l:List Nat) (s:Bs h v l) (hl:l.length≤140737488355328) :
  Zd Tryz.prog T 60 #[.agg [v,.int .i64 n].toArray,.int .i64 k] h fun v' h'=>Zg h.size h h'∧cy h.size h' v' (Sb l n k):=by
 obtain⟨p,c,rfl,UF⟩:=s.open
 refine Zd.Zj (args:=[_,_]) Tryz.func60 rfl rfl rfl rfl ?_
 simp +contextual -implicitDefEqProofs only[go_sem,↓reduceIte]
 refine (Qm T _ _ n l (s.Ya (((Zg.refl _ _).add _).add _)) hl).use ?_
 rintro v1 h1 ⟨b1,o1⟩
 have z1:h.size+1<h1.size:=by have:=b1.size;simp at this;omega
 have r1:=b1.get (k:=h.size+1) (by simp) (by rw[Array.getElem?_push,if_pos (by simp)])
 have w1:=ZS r1
 have bb:Zg h.size h h1:=((Zg.refl _ _).add _).add _ |>.trans (b1.mono (by simp;omega))
 unfold Sb
 by_cases q:l.length≤100000∧0≤n∧n≤l.length
 ·rw[if_pos q]at o1
  obtain⟨w,rfl,o1⟩:=o1
  obtain⟨p1,c1,rfl,g1⟩:=o1.open
  by_cases q1:k<0
  ·simp +contextual -implicitDefEqProofs only[go_sem,↓reduceIte,w1,z1,q1]
   exact⟨(bb.Zl (by omega) _).add _,none,0,[],_,_,rfl,rfl,(Z0.nil 0 5 _).bs,Nat.le_refl _,fun b hb=>by simp[ZO]at hb⟩
  ·have e1:0≤Jd l n k∧Jd l n k≤l.length:=by unfold Jd;split<;>omega
   have e2:(n+(if (l.length:Int)-n<k then (l.length:Int)-n else k))=Jd l n k:=rfl
   have e3:((Jd l n k).toNat:Int)=Jd l n k:=by omega
   have e4:(l.take (Jd l n k).toNat).length=(Jd l n k).toNat:=by rw[List.length_take];omega
   simp +contextual -implicitDefEqProofs only[go_sem,↓reduceIte,w1,z1,q1,e2,e3]
   refine⟨(bb.Zl (by omega) _).add _,p1,(Jd l n k).toNat,_,_,_,rfl,by rw[e4],?_⟩
   rw[e4]
   have o2:=(o1.ZT (b:=h.size+1) (o:=.cells [.slice p1 l.length c1,.int .i64 n].toArray 100) (by simp)).push (.cells [.slice none 0 0,.int .i64 0].toArray 100)
   refine⟨(((o1.ZT (by simp) _).push _).bs).S4 (by omega) _,Nat.le_refl _,fun b hb=>?_⟩
   have I0:ZO (.slice p1 l.length c1)=some b:=by
    cases p1 with
    | none=>simp[ZO]at hb
    | some A=>
     by_cases z:(Jd l n k).toNat=0
     ·rw[z]at hb;simp[ZO]at hb
     ·have bF:c1≠0:=by have:=g1;omega
      simp[ZO,z]at hb
      simp[ZO,bF,hb]
   have h1b:=o1.own.ZF b I0
   have h2b:=o1.own.lt b I0
   simp only[Array.size_push,Array.size_setIfInBounds]
   simp at h1b
   omega
 ·rw[if_neg q]at o1
  subst o1
  simp +contextual -implicitDefEqProofs only[go_sem,↓reduceIte,w1,z1]
  exact⟨(bb.Zl (by omega) _).add _,none,0,[],_,_,rfl,rfl,(Z0.nil 0 5 _).bs,Nat.le_refl _,fun b hb=>by simp[ZO]at hb⟩
def Va (key:List Nat) (k:Int) (Zq:List Nat) (n:Nat):Int:=if XD key k Zq≠0 then XD key k Zq else if 2000<n then 1 else 0
def Zaa (key:List Nat) (k:Nat) (Zq data:List Nat) (i:Nat):Nat:=data.getD i 0 ^^^ (Xq key (k+i/64) Zq).getD (i%64) 0
def Of (key:List Nat) (k:Nat) (Zq data:List Nat):List Nat:=(List.range data.length).map (Zaa key k Zq data)
theorem NU (key:List Nat) (k:Nat) (Zq:List Nat) (i:Nat):(Xq key k Zq).getD i 0<256:=ZI (L0 _ _) i
theorem mL {a b:Nat} (ha:a<256) (hb:b<256):a ^^^ b<256:=Nat.xor_lt_two_pow (n:=8) ha hb
theorem WN (key:List Nat) (k:Nat) (Zq data:List Nat):(Of key k Zq data).length=data.length:=by simp[Of]
theorem fN {key:List Nat} {k:Nat} {Zq data:List Nat} (hd:∀x∈data,x<256):∀x∈Of key k Zq data,x<256:=by
 intro x hx
 obtain⟨i,_,rfl⟩:=List.mem_map.1 hx
 exact mL (ZI hd _) (NU _ _ _ _)
theorem fO {key:List Nat} {k:Nat} {Zq data:List Nat} {i:Nat} (hi:i<data.length):(Of key k Zq data).getD i 0=Zaa key k Zq data i:=LZ _ hi
def mM (B:Nat) (h':Hp) (v':Value) (key:List Nat) (k:Int) (Zq data:List Nat):Prop:=∃w,v'=.tuple [w,.int .i64 (Va key k Zq data.length)].toArray∧Z0 B 5 h' w (if Va key k Zq data.length=0 then Of key k.toNat Zq data else [])
theorem II {key:List Nat} {k:Int} {Zq:List Nat} (e:XD key k Zq=0):key.length=32∧Zq.length=12∧0≤k∧k≤1073741824:=by
 unfold XD at e
 repeat' split at e
 all_goals first|omega|cases e
theorem Ah (n:Nat):XS n [Value.int .u8 0]=(List.replicate n 0).map bv:=by
 induction n with
 | zero=>rfl
 | succ n ih=>rw[XS,ih];rfl
theorem mN (T:World) (h:Hp) (v u d:Value) (key Zq data:List Nat) (k:Int) (sk:Bs h v key) (sn:Bs h u Zq) (sd:Bs h d data) (ck:Ta v) (cn:Ta u) :
  Zd Tryz.prog T 66 #[v,.int .i64 k,u,d] h fun v' h'=>mM h.size h' v' key k Zq data∧Zg h.size h h':=by
 obtain⟨p,c,rfl,_⟩:=sk.open
 obtain⟨q,cn',rfl,_⟩:=sn.open
 obtain⟨pd,cd,rfl,hcd⟩:=sd.Uz
 refine Zd.Zj (args:=[_,_,_,_]) Tryz.func66 rfl rfl rfl rfl ?_
 unfold mM
 simp +contextual -implicitDefEqProofs only[go_sem,↓reduceIte]
 refine (NQ T _ _ _ _ _ _ _ _).pure ?_
 rw[show (if key.length≠32∨Zq.length≠12 then (1:Int) else if k<0∨1073741824<k then 2 else 0)=XD key k Zq from rfl]
 by_cases e:XD key k Zq=0
 ·by_cases el:2000<data.length
  ·have el':2000<(data.length:Int):=by omega
   have em:Va key k Zq data.length=1:=by unfold Va;rw[if_neg (by rw[e];decide),if_pos el]
   simp +contextual -implicitDefEqProofs only[go_sem,↓reduceIte,e,el',em]
   exact⟨_,rfl,Z0.nil _ _ _⟩
  ·have el':¬2000<(data.length:Int):=by omega
   have em:Va key k Zq data.length=0:=by unfold Va;rw[if_neg (by rw[e];decide),if_neg el]
   obtain⟨hk,hn,k0,k1⟩:=II e
   obtain⟨m,rfl⟩:∃m:Nat,k=m:=⟨k.toNat,by omega⟩
   rw[em,Int.toNat_natCast]
   obtain⟨X,hX⟩:=Zy (Of key m Zq data)
   have hXl:X.length=data.length:=by rw[hX,WN]
   have hXb:∀x∈X,x<256:=by rw[hX];exact fN sd.byte
   have xu:X.length=(List.replicate data.length 0).length:=by simp[hXl]
   have xl:∀j,(X.take j++(List.replicate data.length 0).drop j).length=data.length:=fun j=>by simp[hXl];omega
   rw[←hX]
   simp +contextual -implicitDefEqProofs only[go_sem,↓reduceIte,e,el',Ah]
   obtain⟨G,hG⟩:=Zy (h.push (.cells ((List.replicate data.length 0).map bv).toArray 5):Hp)
   have Sc:G[h.size]? = some (.cells ((X.take (64*0)++(List.replicate data.length 0).drop (64*0)).map bv++[]).toArray 5):=by
    rw[hG,Nat.mul_zero,Hb,List.append_nil];exact Zb
   have wZ:Zg h.size h G:=by rw[hG];exact Zg.push (Nat.le_refl _) _
   rw[←hG]
   clear hG
   refine VS.ZV (fun F g=>Zg h.size h g∧F 0=.slice p key.length c∧F 1=.int .i64 m∧F 2=.slice q Zq.length cn'∧F 3=.slice pd data.length cd∧F 11=.slice (some ⟨h.size,0,none⟩) data.length data.length∧∃j:Nat,64*j<data.length+64∧F 12=.int .i64 (64*j:Nat)∧g[h.size]? = some (.cells ((X.take (64*j)++(List.replicate data.length 0).drop (64*j)).map bv++[]).toArray 5))
    (fun F _=>data.length+64-(vi (F 12)).toNat) rfl ⟨wZ,rfl,rfl,rfl,rfl,rfl,0,by omega,rfl,Sc⟩ ?_
   clear Sc wZ G
   rintro F g ⟨hg,f0,f1,f2,f3,f11,j,hj,f12,hx⟩
   have T9:=Za hx
   by_cases ZD:64*j<data.length
   ·have ZL:((64*j:Nat):Int)<data.length:=by omega
    have d1:((64*j:Nat):Int).tdiv 64=(j:Int):=by
     have:((64*j:Nat):Int).tdiv 64=((64*j/64:Nat):Int):=rfl
     rw[this];omega
    have d2:(m:Int)+(j:Int)=((m+j:Nat):Int):=by omega
    have d3:((m+j:Nat):Int)%4294967296=((m+j:Nat):Int):=by omega
    simp +contextual -implicitDefEqProofs only[go_sem,↓reduceIte,f0,f1,f2,f3,f12,ZL,d1,d2,d3]
    refine (Od T _ _ _ key Zq (m+j) (sk.Ya hg) (sn.Ya hg) hk hn (by omega) ck cn).use ?_
    rintro _ g1 ⟨rfl,b1⟩
    have L1:((Xq key (m+j) Zq).map bv).length=64:=by simp[Xq,IF]
    have Xj:=V3 (Xq key (m+j) Zq)
    have hlb:(Xq key (m+j) Zq).length=64:=by simpa using L1
    have Qy:=b1.get T9 hx
    have Q8:=hg.trans (b1.mono hg.size)
    have b1s:=b1.size
    obtain⟨W,hW⟩:=Zy (Xq key (m+j) Zq)
    have hWb:∀i,W.getD i 0<256:=fun i=>by rw[hW];exact NU _ _ _ _
    rw[←hW]at L1 Xj hlb ⊢
    simp +contextual -implicitDefEqProofs only[go_sem,↓reduceIte,L1,Xj,ZP,f12]
    have xw:(g1.push (.cells (W.map bv++[]).toArray 180))[g1.size]? = some (.cells (W.map bv++[]).toArray 180):=Zb
    rw[List.append_nil]at xw
    have RN:(g1.push (.cells (W.map bv).toArray 180))[h.size]? = some (.cells ((X.take (64*j)++(List.replicate data.length 0).drop (64*j)).map bv++[]).toArray 5):=by rw[Zr (by omega)];exact Qy
    have TN:Zg h.size h (g1.push (.cells (W.map bv).toArray 180)):=Q8.Yh (by omega) _
    generalize g1.push (.cells (W.map bv).toArray 180)=G at *
    refine VS.ZV (fun F g=>Zg h.size h g∧F 0=.slice p key.length c∧F 1=.int .i64 m∧F 2=.slice q Zq.length cn'∧F 3=.slice pd data.length cd∧F 11=.slice (some ⟨h.size,0,none⟩) data.length data.length∧F 12=.int .i64 (64*j:Nat)∧F 13=.pointer (some ⟨g1.size,0,none⟩)∧g[g1.size]? = some (.cells (W.map bv).toArray 180)∧∃i:Nat,64*j≤i∧i≤64*j+64∧i≤data.length∧F 14=.int .i64 i∧g[h.size]? = some (.cells ((X.take i++(List.replicate data.length 0).drop i).map bv++[]).toArray 5))
     (fun F _=>data.length-(vi (F 14)).toNat) rfl ⟨TN,f0,f1,f2,f3,f11,f12,rfl,xw,64*j,by omega,by omega,by omega,rfl,RN⟩ ?_
    clear f0 f1 f2 f3 f11 f12 xw RN Qy TN hx Q8
    rintro F g2 ⟨QL,f0,f1,f2,f3,f11,f12,f13,xw,i,i1,i2,i3,f14,hx⟩
    by_cases O3:i<64*j+64∧i<data.length
    ·obtain⟨l1,l2⟩:=O3
     obtain⟨bd,od,rfl,Ai,hcd⟩:=hcd (by intro e;rw[e]at ZD;simp at ZD)
     have mO:(i:Int)<min (((64*j:Nat):Int)+64) (data.length:Int):=by omega
     have u1:V.hc g2 ⟨bd,od+i,none⟩=some (.int .u8 (data.getD i 0:Nat)):=by rw[QL.hc (by exact Ai)];exact hcd i l2
     have hik:i-64*j<64:=by omega
     have u2:V.hc g2 ⟨g1.size,i-64*j,none⟩=some (.int .u8 (W.getD (i-64*j) 0:Nat)):=by
      rw[←List.append_nil (W.map bv)]at xw
      exact ZK xw (i:=i-64*j) (by omega)
     have t1:(i:Int)-((64*j:Nat):Int)=((i-64*j:Nat):Int):=by omega
     have xb:=ZI sd.byte i
     have ex:=Gu (data.getD i 0) (W.getD (i-64*j) 0) xb (hWb _)
     have exX:X.getD i 0=data.getD i 0 ^^^ W.getD (i-64*j) 0:=by
      rw[hX,fO l2,hW]
      unfold Zaa
      rw[show i/64=j by omega,show i%64=i-64*j by omega]
     rw[←exX]at ex
     have cs:Jx g2 ⟨h.size,i,none⟩ (.int .u8 (X.getD i 0:Nat))=_:=ZZ (f:=bv) hx (i:=i) (by rw[xl];exact l2) _ rfl
     rw[JG X _ i (by omega) xu]at cs
     simp +contextual -implicitDefEqProofs only[go_sem,↓reduceIte,f3,f12,f14,mO]
     have l2':(i:Int)<data.length:=by omega
     have t1':0≤(i:Int)-((64*j:Nat):Int):=by omega
     refine VS.w (g2.size) [13] (.q 0 (.q 1 (.q 2 (.q 3 (.q 4 (.q 5 (.q 6 (.q 7 (.q 8 (.q 9 (.q 10 (.q 11 (.q 12 (.w 13 .nil)))))))))))))) mixed (by kernel_rfl) ?_
     have Zl2:bd<g2.size:=Nat.lt_of_lt_of_le Ai QL.size
     have hgw:=Za xw
     simp +contextual -implicitDefEqProofs only[go_sem,↓reduceIte,f3,f11,f12,f13,f14,t1,Zl2,hgw,u1,u2,ex,cs]
     refine⟨⟨QL.Zl (Nat.le_refl _) _,f0,f1,f2,f3,f11,f12,f13,?_,i+1,by omega,by omega,by omega,rfl,?_⟩,?_⟩
     ·rw[Array.getElem?_setIfInBounds,if_neg (by omega)];exact xw
     ·exact ZR hx
     ·simp only[vi,Zk,↓reduceIte,f14];omega
    ·have mO:¬(i:Int)<min (((64*j:Nat):Int)+64) (data.length:Int):=by omega
     simp +contextual -implicitDefEqProofs only[go_sem,↓reduceIte,f3,f12,f14,mO]
     have e12:((64*j:Nat):Int)+64=((64*(j+1):Nat):Int):=by omega
     refine⟨⟨QL,f0,f1,f2,f3,f11,j+1,by omega,by rw[←e12];rfl,?_⟩,?_⟩
     ·by_cases c1:i=64*j+64
      ·rw[show 64*(j+1)=i by omega];exact hx
      ·have e3:i=data.length:=by omega
       rw[List.take_of_length_le (show X.length≤64*(j+1) by omega),List.drop_of_length_le (show (List.replicate data.length 0).length≤64*(j+1) by simp;omega)]
       rw[List.take_of_length_le (show X.length≤i by omega),List.drop_of_length_le (show (List.replicate data.length 0).length≤i by simp;omega)]at hx
       exact hx
     ·simp only[vi,Zk,↓reduceIte,f12];omega
   ·have YJ:¬((64*j:Nat):Int)<data.length:=by omega
    have e1:X.take (64*j)=X:=List.take_of_length_le (by omega)
    have e2:(List.replicate data.length 0).drop (64*j)=[]:=List.drop_of_length_le (by simp;omega)
    rw[e1,e2,List.append_nil,List.append_nil]at hx
    simp +contextual -implicitDefEqProofs only[go_sem,↓reduceIte,f3,f11,f12,YJ,hg]
    refine⟨_,rfl,⟨.inr ⟨h.size,data.length,[],Nat.le_refl _,by rw[hXl],by rw[List.append_nil];exact hx,by simp,by rw[hXl];simp,by rw[hXl];exact Nat.le_refl _⟩,hXb⟩⟩
 ·have em:Va key k Zq data.length=XD key k Zq:=by unfold Va;rw[if_pos e]
  rw[em]
  simp +contextual -implicitDefEqProofs only[go_sem,↓reduceIte,e]
  exact⟨_,rfl,Z0.nil _ _ _⟩
end Go.Proofs.YtpomedigibbeeaaGreatDoor
