/- Syncing a tape, and what a crash leaves of it: what the program computes; no condition but those in the statements. -/
import Derived.Test.YtkfhncfkagcamaaGreatDoorTape
import Derived.Test.YtkfhncfkagcamaaGreatDoorW12
import Derived.Test.YtkfhncfkagcamaaGreatDoorLchks
namespace Go.Proofs.YtkfhncfkagcamaaGreatDoor
open Go Go.V
set_option linter.unusedSimpArgs false
set_option linter.unusedVariables false
set_option maxRecDepth 100000
def Ai (B:Nat) (h':Hp) (v':Value) (l:List Nat) (n:Int):Prop:=
 if l.length≤100000∧0≤n∧n≤l.length then ∃w,v'=.tuple [.agg [w,.int .i64 l.length].toArray,.int .i64 0].toArray∧Z1 B 5 h' w l
 else v'=.tuple [.agg [.slice none 0 0,.int .i64 0].toArray,.int .i64 5].toArray
theorem tp (T:World) (h:Hp) (v:Value) (n:Int) (l:List Nat) (s:Bs h v l) (hl:l.length≤140737488355328) :
  Zd Tryz.prog T 94 #[.agg [v,.int .i64 n].toArray] h fun v' h'=>Ze h.size h h'∧Ai h.size h' v' l n:=by
 obtain⟨p,c,rfl,UA⟩:=s.open
 refine Zd.Zi (args:=[_]) Tryz.func94 rfl rfl rfl rfl ?_
 simp +contextual -implicitDefEqProofs only[go_sem,↓reduceIte]
 refine (Qc T _ _ n l (s.Z4 (((Ze.refl _ _).add _).add _)) hl).use ?_
 rintro v1 h1 ⟨b1,o1⟩
 have z1:h.size+1<h1.size:=by have:=b1.size;simp at this;omega
 have r1:=b1.get (k:=h.size+1) (by simp) (by rw[Array.getElem?_push,if_pos (by simp)])
 have w1:=ZP r1
 have bb:Ze h.size h h1:=((Ze.refl _ _).add _).add _ |>.trans (b1.mono (by simp;omega))
 unfold Ai
 by_cases q:l.length≤100000∧0≤n∧n≤l.length
 ·rw[if_pos q]at o1
  obtain⟨w,rfl,o1⟩:=o1
  obtain⟨p1,c1,rfl,_⟩:=o1.bs.open
  simp +contextual -implicitDefEqProofs only[go_sem,↓reduceIte,w1,z1]
  refine⟨(bb.Zk (by omega) _).add _,_,rfl,?_⟩
  exact ((o1.ZQ (by simp) _).push _).mono (by simp;omega)
 ·rw[if_neg q]at o1
  subst o1
  simp +contextual -implicitDefEqProofs only[go_sem,↓reduceIte,w1,z1]
  exact (bb.Zk (by omega) _).add _
def X8 (l:List Nat) (n k:Int):Int:=n+(if (l.length:Int)-n<k then (l.length:Int)-n else k)
def T3 (l:List Nat) (n k:Int):List Nat × Int × Int:=
 if l.length≤100000∧0≤n∧n≤l.length then (if k<0 then ([],0,2) else (l.take (X8 l n k).toNat,X8 l n k,0)) else ([],0,5)
def cF (B:Nat) (h':Hp) (v':Value) (r:List Nat × Int × Int):Prop:=
 ∃p c L Z E,r=(L,Z,E)∧v'=.tuple [.agg [.slice p L.length c,.int .i64 Z].toArray,.int .i64 E].toArray∧Bs h' (.slice p L.length c) L∧L.length≤c∧∀b,ZM (.slice p L.length c)=some b→B≤b∧b<h'.size
theorem mA (T:World) (h:Hp) (v:Value) (n k:Int) (l:List Nat) (s:Bs h v l) (hl:l.length≤140737488355328) :
  Zd Tryz.prog T 80 #[.agg [v,.int .i64 n].toArray,.int .i64 k] h fun v' h'=>Ze h.size h h'∧cF h.size h' v' (T3 l n k):=by
 obtain⟨p,c,rfl,UA⟩:=s.open
 refine Zd.Zi (args:=[_,_]) Tryz.func80 rfl rfl rfl rfl ?_
 simp +contextual -implicitDefEqProofs only[go_sem,↓reduceIte]
 refine (Qc T _ _ n l (s.Z4 (((Ze.refl _ _).add _).add _)) hl).use ?_
 rintro v1 h1 ⟨b1,o1⟩
 have z1:h.size+1<h1.size:=by have:=b1.size;simp at this;omega
 have r1:=b1.get (k:=h.size+1) (by simp) (by rw[Array.getElem?_push,if_pos (by simp)])
 have w1:=ZP r1
 have bb:Ze h.size h h1:=((Ze.refl _ _).add _).add _ |>.trans (b1.mono (by simp;omega))
 unfold T3
 by_cases q:l.length≤100000∧0≤n∧n≤l.length
 ·rw[if_pos q]at o1
  obtain⟨w,rfl,o1⟩:=o1
  obtain⟨p1,c1,rfl,g1⟩:=o1.open
  by_cases q1:k<0
  ·simp +contextual -implicitDefEqProofs only[go_sem,↓reduceIte,w1,z1,q1]
   exact⟨(bb.Zk (by omega) _).add _,none,0,[],_,_,rfl,rfl,(Z1.nil 0 5 _).bs,Nat.le_refl _,fun b hb=>by simp[ZM]at hb⟩
  ·have e1:0≤X8 l n k∧X8 l n k≤l.length:=by unfold X8;split<;>omega
   have e2:(n+(if (l.length:Int)-n<k then (l.length:Int)-n else k))=X8 l n k:=rfl
   have e3:((X8 l n k).toNat:Int)=X8 l n k:=by omega
   have e4:(l.take (X8 l n k).toNat).length=(X8 l n k).toNat:=by rw[List.length_take];omega
   simp +contextual -implicitDefEqProofs only[go_sem,↓reduceIte,w1,z1,q1,e2,e3]
   refine⟨(bb.Zk (by omega) _).add _,p1,(X8 l n k).toNat,_,_,_,rfl,by rw[e4],?_⟩
   rw[e4]
   have o2:=(o1.ZQ (b:=h.size+1) (o:=.cells [.slice p1 l.length c1,.int .i64 n].toArray 126) (by simp)).push (.cells [.slice none 0 0,.int .i64 0].toArray 126)
   refine⟨(((o1.ZQ (by simp) _).push _).bs).TN (by omega) _,Nat.le_refl _,fun b hb=>?_⟩
   have Ie:ZM (.slice p1 l.length c1)=some b:=by
    cases p1 with
    | none=>simp[ZM]at hb
    | some A=>
     by_cases z:(X8 l n k).toNat=0
     ·rw[z]at hb;simp[ZM]at hb
     ·have bH:c1≠0:=by have:=g1;omega
      simp[ZM,z]at hb
      simp[ZM,bH,hb]
   have h1b:=o1.own.ZD b Ie
   have h2b:=o1.own.lt b Ie
   simp only[Array.size_push,Array.size_setIfInBounds]
   simp at h1b
   omega
 ·rw[if_neg q]at o1
  subst o1
  simp +contextual -implicitDefEqProofs only[go_sem,↓reduceIte,w1,z1]
  exact⟨(bb.Zk (by omega) _).add _,none,0,[],_,_,rfl,rfl,(Z1.nil 0 5 _).bs,Nat.le_refl _,fun b hb=>by simp[ZM]at hb⟩
def WT (key:List Nat) (k:Int) (Zp:List Nat) (n:Nat):Int:=if Xx key k Zp≠0 then Xx key k Zp else if 2000<n then 1 else 0
def EL (key:List Nat) (k:Nat) (Zp data:List Nat) (i:Nat):Nat:=data.getD i 0 ^^^ (Xl key (k+i/64) Zp).getD (i%64) 0
def QQ (key:List Nat) (k:Nat) (Zp data:List Nat):List Nat:=(List.range data.length).map (EL key k Zp data)
theorem Nv (key:List Nat) (k:Nat) (Zp:List Nat) (i:Nat):(Xl key k Zp).getD i 0<256:=ZF (LM _ _) i
theorem mB {a b:Nat} (ha:a<256) (hb:b<256):a ^^^ b<256:=Nat.xor_lt_two_pow (n:=8) ha hb
theorem Jz (key:List Nat) (k:Nat) (Zp data:List Nat):(QQ key k Zp data).length=data.length:=by simp[QQ]
theorem fP {key:List Nat} {k:Nat} {Zp data:List Nat} (hd:∀x∈data,x<256):∀x∈QQ key k Zp data,x<256:=by
 intro x hx
 obtain⟨i,_,rfl⟩:=List.mem_map.1 hx
 exact mB (ZF hd _) (Nv _ _ _ _)
theorem fQ {key:List Nat} {k:Nat} {Zp data:List Nat} {i:Nat} (hi:i<data.length):(QQ key k Zp data).getD i 0=EL key k Zp data i:=LJ _ hi
def mC (B:Nat) (h':Hp) (v':Value) (key:List Nat) (k:Int) (Zp data:List Nat):Prop:=∃w,v'=.tuple [w,.int .i64 (WT key k Zp data.length)].toArray∧Z1 B 5 h' w (if WT key k Zp data.length=0 then QQ key k.toNat Zp data else [])
theorem IC {key:List Nat} {k:Int} {Zp:List Nat} (e:Xx key k Zp=0):key.length=32∧Zp.length=12∧0≤k∧k≤1073741824:=by
 unfold Xx at e
 repeat' split at e
 all_goals first|omega|cases e
theorem Aj (n:Nat):XS n [Value.int .u8 0]=(List.replicate n 0).map bv:=by
 induction n with
 | zero=>rfl
 | succ n ih=>rw[XS,ih];rfl
theorem mD (T:World) (h:Hp) (v u d:Value) (key Zp data:List Nat) (k:Int) (sk:Bs h v key) (sn:Bs h u Zp) (sd:Bs h d data) (ck:WO v) (cn:WO u) :
  Zd Tryz.prog T 70 #[v,.int .i64 k,u,d] h fun v' h'=>mC h.size h' v' key k Zp data∧Ze h.size h h':=by
 obtain⟨p,c,rfl,_⟩:=sk.open
 obtain⟨q,cn',rfl,_⟩:=sn.open
 obtain⟨pd,cd,rfl,hcd⟩:=sd.Us
 refine Zd.Zi (args:=[_,_,_,_]) Tryz.func70 rfl rfl rfl rfl ?_
 unfold mC
 simp +contextual -implicitDefEqProofs only[go_sem,↓reduceIte]
 refine (Nt T _ _ _ _ _ _ _ _).pure ?_
 rw[show (if key.length≠32∨Zp.length≠12 then (1:Int) else if k<0∨1073741824<k then 2 else 0)=Xx key k Zp from rfl]
 by_cases e:Xx key k Zp=0
 ·by_cases el:2000<data.length
  ·have el':2000<(data.length:Int):=by omega
   have em:WT key k Zp data.length=1:=by unfold WT;rw[if_neg (by rw[e];decide),if_pos el]
   simp +contextual -implicitDefEqProofs only[go_sem,↓reduceIte,e,el',em]
   exact⟨_,rfl,Z1.nil _ _ _⟩
  ·have el':¬2000<(data.length:Int):=by omega
   have em:WT key k Zp data.length=0:=by unfold WT;rw[if_neg (by rw[e];decide),if_neg el]
   obtain⟨hk,hn,k0,k1⟩:=IC e
   obtain⟨m,rfl⟩:∃m:Nat,k=m:=⟨k.toNat,by omega⟩
   rw[em,Int.toNat_natCast]
   obtain⟨X,hX⟩:=Zu (QQ key m Zp data)
   have hXl:X.length=data.length:=by rw[hX,Jz]
   have hXb:∀x∈X,x<256:=by rw[hX];exact fP sd.byte
   have xm:X.length=(List.replicate data.length 0).length:=by simp[hXl]
   have xl:∀j,(X.take j++(List.replicate data.length 0).drop j).length=data.length:=fun j=>by simp[hXl];omega
   rw[←hX]
   simp +contextual -implicitDefEqProofs only[go_sem,↓reduceIte,e,el',Aj]
   obtain⟨G,hG⟩:=Zu (h.push (.cells ((List.replicate data.length 0).map bv).toArray 5):Hp)
   have Tb:G[h.size]? = some (.cells ((X.take (64*0)++(List.replicate data.length 0).drop (64*0)).map bv++[]).toArray 5):=by
    rw[hG,Nat.mul_zero,I5,List.append_nil];exact Zb
   have hb0:Ze h.size h G:=by rw[hG];exact Ze.push (Nat.le_refl _) _
   rw[←hG]
   clear hG
   refine VS.ZU (fun F g=>Ze h.size h g∧F 0=.slice p key.length c∧F 1=.int .i64 m∧F 2=.slice q Zp.length cn'∧F 3=.slice pd data.length cd∧F 11=.slice (some ⟨h.size,0,none⟩) data.length data.length∧∃j:Nat,64*j<data.length+64∧F 12=.int .i64 (64*j:Nat)∧g[h.size]? = some (.cells ((X.take (64*j)++(List.replicate data.length 0).drop (64*j)).map bv++[]).toArray 5))
    (fun F _=>data.length+64-(vi (F 12)).toNat) rfl ⟨hb0,rfl,rfl,rfl,rfl,rfl,0,by omega,rfl,Tb⟩ ?_
   clear Tb hb0 G
   rintro F g ⟨hg,f0,f1,f2,f3,f11,j,hj,f12,hx⟩
   have S8:=Za hx
   by_cases ZA:64*j<data.length
   ·have ZH:((64*j:Nat):Int)<data.length:=by omega
    have d1:((64*j:Nat):Int).tdiv 64=(j:Int):=by
     have:((64*j:Nat):Int).tdiv 64=((64*j/64:Nat):Int):=rfl
     rw[this];omega
    have d2:(m:Int)+(j:Int)=((m+j:Nat):Int):=by omega
    have d3:((m+j:Nat):Int)%4294967296=((m+j:Nat):Int):=by omega
    simp +contextual -implicitDefEqProofs only[go_sem,↓reduceIte,f0,f1,f2,f3,f12,ZH,d1,d2,d3]
    refine (PI T _ _ _ key Zp (m+j) (sk.Z4 hg) (sn.Z4 hg) hk hn (by omega) ck cn).use ?_
    rintro _ g1 ⟨rfl,b1⟩
    have LN:((Xl key (m+j) Zp).map bv).length=64:=by simp[Xl,Iz]
    have Xd:=VV (Xl key (m+j) Zp)
    have cE:(Xl key (m+j) Zp).length=64:=by simpa using LN
    have Qm:=b1.get S8 hx
    have Q3:=hg.trans (b1.mono hg.size)
    have b1s:=b1.size
    obtain⟨W,hW⟩:=Zu (Xl key (m+j) Zp)
    have hWb:∀i,W.getD i 0<256:=fun i=>by rw[hW];exact Nv _ _ _ _
    rw[←hW]at LN Xd cE ⊢
    simp +contextual -implicitDefEqProofs only[go_sem,↓reduceIte,LN,Xd,ZK,f12]
    have xp:(g1.push (.cells (W.map bv++[]).toArray 173))[g1.size]? = some (.cells (W.map bv++[]).toArray 173):=Zb
    rw[List.append_nil]at xp
    have Rz:(g1.push (.cells (W.map bv).toArray 173))[h.size]? = some (.cells ((X.take (64*j)++(List.replicate data.length 0).drop (64*j)).map bv++[]).toArray 5):=by rw[Zq (by omega)];exact Qm
    have TG:Ze h.size h (g1.push (.cells (W.map bv).toArray 173)):=Q3.Yg (by omega) _
    generalize g1.push (.cells (W.map bv).toArray 173)=G at *
    refine VS.ZU (fun F g=>Ze h.size h g∧F 0=.slice p key.length c∧F 1=.int .i64 m∧F 2=.slice q Zp.length cn'∧F 3=.slice pd data.length cd∧F 11=.slice (some ⟨h.size,0,none⟩) data.length data.length∧F 12=.int .i64 (64*j:Nat)∧F 13=.pointer (some ⟨g1.size,0,none⟩)∧g[g1.size]? = some (.cells (W.map bv).toArray 173)∧∃i:Nat,64*j≤i∧i≤64*j+64∧i≤data.length∧F 14=.int .i64 i∧g[h.size]? = some (.cells ((X.take i++(List.replicate data.length 0).drop i).map bv++[]).toArray 5))
     (fun F _=>data.length-(vi (F 14)).toNat) rfl ⟨TG,f0,f1,f2,f3,f11,f12,rfl,xp,64*j,by omega,by omega,by omega,rfl,Rz⟩ ?_
    clear f0 f1 f2 f3 f11 f12 xp Rz Qm TG hx Q3
    rintro F g2 ⟨QD,f0,f1,f2,f3,f11,f12,f13,xp,i,i1,i2,i3,f14,hx⟩
    by_cases RD:i<64*j+64∧i<data.length
    ·obtain⟨l1,l2⟩:=RD
     obtain⟨bd,od,rfl,Ak,hcd⟩:=hcd (by intro e;rw[e]at ZA;simp at ZA)
     have mE:(i:Int)<min (((64*j:Nat):Int)+64) (data.length:Int):=by omega
     have u1:V.hc g2 ⟨bd,od+i,none⟩=some (.int .u8 (data.getD i 0:Nat)):=by rw[QD.hc (by exact Ak)];exact hcd i l2
     have hik:i-64*j<64:=by omega
     have u2:V.hc g2 ⟨g1.size,i-64*j,none⟩=some (.int .u8 (W.getD (i-64*j) 0:Nat)):=by
      rw[←List.append_nil (W.map bv)]at xp
      exact ZJ xp (i:=i-64*j) (by omega)
     have t1:(i:Int)-((64*j:Nat):Int)=((i-64*j:Nat):Int):=by omega
     have xb:=ZF sd.byte i
     have ex:=Gd (data.getD i 0) (W.getD (i-64*j) 0) xb (hWb _)
     have exX:X.getD i 0=data.getD i 0 ^^^ W.getD (i-64*j) 0:=by
      rw[hX,fQ l2,hW]
      unfold EL
      rw[show i/64=j by omega,show i%64=i-64*j by omega]
     rw[←exX]at ex
     have cs:Jn g2 ⟨h.size,i,none⟩ (.int .u8 (X.getD i 0:Nat))=_:=ZZ (f:=bv) hx (i:=i) (by rw[xl];exact l2) _ rfl
     rw[Jy X _ i (by omega) xm]at cs
     simp +contextual -implicitDefEqProofs only[go_sem,↓reduceIte,f3,f12,f14,mE]
     have l2':(i:Int)<data.length:=by omega
     have t1':0≤(i:Int)-((64*j:Nat):Int):=by omega
     refine VS.w (g2.size) [13] (.q 0 (.q 1 (.q 2 (.q 3 (.q 4 (.q 5 (.q 6 (.q 7 (.q 8 (.q 9 (.q 10 (.q 11 (.q 12 (.w 13 .nil)))))))))))))) mixed (by kernel_rfl) ?_
     have Zma:bd<g2.size:=Nat.lt_of_lt_of_le Ak QD.size
     have hgw:=Za xp
     simp +contextual -implicitDefEqProofs only[go_sem,↓reduceIte,f3,f11,f12,f13,f14,t1,Zma,hgw,u1,u2,ex,cs]
     refine⟨⟨QD.Zk (Nat.le_refl _) _,f0,f1,f2,f3,f11,f12,f13,?_,i+1,by omega,by omega,by omega,rfl,?_⟩,?_⟩
     ·rw[Array.getElem?_setIfInBounds,if_neg (by omega)];exact xp
     ·exact ZO hx
     ·simp only[vi,Zh,↓reduceIte,f14];omega
    ·have mE:¬(i:Int)<min (((64*j:Nat):Int)+64) (data.length:Int):=by omega
     simp +contextual -implicitDefEqProofs only[go_sem,↓reduceIte,f3,f12,f14,mE]
     have e12:((64*j:Nat):Int)+64=((64*(j+1):Nat):Int):=by omega
     refine⟨⟨QD,f0,f1,f2,f3,f11,j+1,by omega,by rw[←e12];rfl,?_⟩,?_⟩
     ·by_cases c1:i=64*j+64
      ·rw[show 64*(j+1)=i by omega];exact hx
      ·have e3:i=data.length:=by omega
       rw[List.take_of_length_le (show X.length≤64*(j+1) by omega),List.drop_of_length_le (show (List.replicate data.length 0).length≤64*(j+1) by simp;omega)]
       rw[List.take_of_length_le (show X.length≤i by omega),List.drop_of_length_le (show (List.replicate data.length 0).length≤i by simp;omega)]at hx
       exact hx
     ·simp only[vi,Zh,↓reduceIte,f12];omega
   ·have YE:¬((64*j:Nat):Int)<data.length:=by omega
    have e1:X.take (64*j)=X:=List.take_of_length_le (by omega)
    have e2:(List.replicate data.length 0).drop (64*j)=[]:=List.drop_of_length_le (by simp;omega)
    rw[e1,e2,List.append_nil,List.append_nil]at hx
    simp +contextual -implicitDefEqProofs only[go_sem,↓reduceIte,f3,f11,f12,YE,hg]
    refine⟨_,rfl,⟨.inr ⟨h.size,data.length,[],Nat.le_refl _,by rw[hXl],by rw[List.append_nil];exact hx,by simp,by rw[hXl];simp,by rw[hXl];exact Nat.le_refl _⟩,hXb⟩⟩
 ·have em:WT key k Zp data.length=Xx key k Zp:=by unfold WT;rw[if_pos e]
  rw[em]
  simp +contextual -implicitDefEqProofs only[go_sem,↓reduceIte,e]
  exact⟨_,rfl,Z1.nil _ _ _⟩
end Go.Proofs.YtkfhncfkagcamaaGreatDoor
