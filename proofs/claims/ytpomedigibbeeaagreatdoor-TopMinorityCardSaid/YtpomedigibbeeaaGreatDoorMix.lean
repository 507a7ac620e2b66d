/- Syncing a tape, and what a crash leaves of it: what the program computes; no condition but those in the statements. -/
import Derived.Test.YtpomedigibbeeaaGreatDoorTape
import Derived.Test.YtpomedigibbeeaaGreatDoorW12
import Derived.Test.YtpomedigibbeeaaGreatDoorLchks
namespace Go.Proofs.YtpomedigibbeeaaGreatDoor
open Go Go.V
set_option linter.unusedSimpArgs false
set_option linter.unusedVariables false
set_option maxRecDepth 100000
def Bf (B:Nat) (h':Hp) (v':Value) (l:List Nat) (n:Int):Prop:=
 if l.length≤100000∧0≤n∧n≤l.length then ∃w,v'=.tuple [.agg [w,.int .i64 l.length].toArray,.int .i64 0].toArray∧ZZ B 5 h' w l
 else v'=.tuple [.agg [.slice none 0 0,.int .i64 0].toArray,.int .i64 5].toArray
theorem qx (T:World) (h:Hp) (v:Value) (n:Int) (l:List Nat) (s:Bs h v l) (hl:l.length≤140737488355328) :
  Zc Tryz.prog T 77 #[.agg [v,.int .i64 n].toArray] h fun v' h'=>Zf h.size h h'∧Bf h.size h' v' l n:=by
 obtain⟨p,c,rfl,Uo⟩:=s.open
 refine Zc.Zh (args:=[_]) Tryz.func77 rfl rfl rfl rfl ?_
 simp +contextual -implicitDefEqProofs only[go_sem,↓reduceIte]
 refine (JY T _ _ n l (s.Z7 (((Zf.refl _ _).add _).add _)) hl).use ?_
 rintro v1 h1 ⟨b1,o1⟩
 have z1:h.size+1<h1.size:=by have:=b1.size;simp at this;omega
 have r1:=b1.get (k:=h.size+1) (by simp) (by rw[Array.getElem?_push,if_pos (by simp)])
 have w1:=ZP r1
 have bb:Zf h.size h h1:=((Zf.refl _ _).add _).add _ |>.trans (b1.mono (by simp;omega))
 unfold Bf
 by_cases q:l.length≤100000∧0≤n∧n≤l.length
 ·rw[if_pos q]at o1
  obtain⟨w,rfl,o1⟩:=o1
  obtain⟨p1,c1,rfl,_⟩:=o1.bs.open
  simp +contextual -implicitDefEqProofs only[go_sem,↓reduceIte,w1,z1]
  refine⟨(bb.Zk (by omega) _).add _,_,rfl,?_⟩
  exact ((o1.ZR (by simp) _).push _).mono (by simp;omega)
 ·rw[if_neg q]at o1
  subst o1
  simp +contextual -implicitDefEqProofs only[go_sem,↓reduceIte,w1,z1]
  exact (bb.Zk (by omega) _).add _
def X0 (l:List Nat) (n k:Int):Int:=n+(if (l.length:Int)-n<k then (l.length:Int)-n else k)
def TH (l:List Nat) (n k:Int):List Nat × Int × Int:=
 if l.length≤100000∧0≤n∧n≤l.length then (if k<0 then ([],0,2) else (l.take (X0 l n k).toNat,X0 l n k,0)) else ([],0,5)
def aD (B:Nat) (h':Hp) (v':Value) (r:List Nat × Int × Int):Prop:=
 ∃p c L Z E,r=(L,Z,E)∧v'=.tuple [.agg [.slice p L.length c,.int .i64 Z].toArray,.int .i64 E].toArray∧Bs h' (.slice p L.length c) L∧L.length≤c∧∀b,ZL (.slice p L.length c)=some b→B≤b∧b<h'.size
theorem ku (T:World) (h:Hp) (v:Value) (n k:Int) (l:List Nat) (s:Bs h v l) (hl:l.length≤140737488355328) :
  Zc Tryz.prog T 60 #[.agg [v,.int .i64 n].toArray,.int .i64 k] h fun v' h'=>Zf h.size h h'∧aD h.size h' v' (TH l n k):=by
 obtain⟨p,c,rfl,Uo⟩:=s.open
 refine Zc.Zh (args:=[_,_]) Tryz.func60 rfl rfl rfl rfl ?_
 simp +contextual -implicitDefEqProofs only[go_sem,↓reduceIte]
 refine (JY T _ _ n l (s.Z7 (((Zf.refl _ _).add _).add _)) hl).use ?_
 rintro v1 h1 ⟨b1,o1⟩
 have z1:h.size+1<h1.size:=by have:=b1.size;simp at this;omega
 have r1:=b1.get (k:=h.size+1) (by simp) (by rw[Array.getElem?_push,if_pos (by simp)])
 have w1:=ZP r1
 have bb:Zf h.size h h1:=((Zf.refl _ _).add _).add _ |>.trans (b1.mono (by simp;omega))
 unfold TH
 by_cases q:l.length≤100000∧0≤n∧n≤l.length
 ·rw[if_pos q]at o1
  obtain⟨w,rfl,o1⟩:=o1
  obtain⟨p1,c1,rfl,g1⟩:=o1.open
  by_cases q1:k<0
  ·simp +contextual -implicitDefEqProofs only[go_sem,↓reduceIte,w1,z1,q1]
   exact⟨(bb.Zk (by omega) _).add _,none,0,[],_,_,rfl,rfl,(ZZ.nil 0 5 _).bs,Nat.le_refl _,fun b hb=>by simp[ZL]at hb⟩
  ·have e1:0≤X0 l n k∧X0 l n k≤l.length:=by unfold X0;split<;>omega
   have e2:(n+(if (l.length:Int)-n<k then (l.length:Int)-n else k))=X0 l n k:=rfl
   have e3:((X0 l n k).toNat:Int)=X0 l n k:=by omega
   have e4:(l.take (X0 l n k).toNat).length=(X0 l n k).toNat:=by rw[List.length_take];omega
   simp +contextual -implicitDefEqProofs only[go_sem,↓reduceIte,w1,z1,q1,e2,e3]
   refine⟨(bb.Zk (by omega) _).add _,p1,(X0 l n k).toNat,_,_,_,rfl,by rw[e4],?_⟩
   rw[e4]
   have o2:=(o1.ZR (b:=h.size+1) (o:=.cells [.slice p1 l.length c1,.int .i64 n].toArray 100) (by simp)).push (.cells [.slice none 0 0,.int .i64 0].toArray 100)
   refine⟨(((o1.ZR (by simp) _).push _).bs).Sr (by omega) _,Nat.le_refl _,fun b hb=>?_⟩
   have Io:ZL (.slice p1 l.length c1)=some b:=by
    cases p1 with
    | none=>simp[ZL]at hb
    | some A=>
     by_cases z:(X0 l n k).toNat=0
     ·rw[z]at hb;simp[ZL]at hb
     ·have ab:c1≠0:=by have:=g1;omega
      simp[ZL,z]at hb
      simp[ZL,ab,hb]
   have h1b:=o1.own.ZD b Io
   have h2b:=o1.own.lt b Io
   simp only[Array.size_push,Array.size_setIfInBounds]
   simp at h1b
   omega
 ·rw[if_neg q]at o1
  subst o1
  simp +contextual -implicitDefEqProofs only[go_sem,↓reduceIte,w1,z1]
  exact⟨(bb.Zk (by omega) _).add _,none,0,[],_,_,rfl,rfl,(ZZ.nil 0 5 _).bs,Nat.le_refl _,fun b hb=>by simp[ZL]at hb⟩
def Wy (key:List Nat) (k:Int) (Zp:List Nat) (n:Nat):Int:=if Xw key k Zp≠0 then Xw key k Zp else if 2000<n then 1 else 0
def xN (key:List Nat) (k:Nat) (Zp data:List Nat) (i:Nat):Nat:=data.getD i 0 ^^^ (Xi key (k+i/64) Zp).getD (i%64) 0
def Pd (key:List Nat) (k:Nat) (Zp data:List Nat):List Nat:=(List.range data.length).map (xN key k Zp data)
theorem Nb (key:List Nat) (k:Nat) (Zp:List Nat) (i:Nat):(Xi key k Zp).getD i 0<256:=ZF (Lr _ _) i
theorem kv {a b:Nat} (ha:a<256) (hb:b<256):a ^^^ b<256:=Nat.xor_lt_two_pow (n:=8) ha hb
theorem Wm (key:List Nat) (k:Nat) (Zp data:List Nat):(Pd key k Zp data).length=data.length:=by simp[Pd]
theorem dN {key:List Nat} {k:Nat} {Zp data:List Nat} (hd:∀x∈data,x<256):∀x∈Pd key k Zp data,x<256:=by
 intro x hx
 obtain⟨i,_,rfl⟩:=List.mem_map.1 hx
 exact kv (ZF hd _) (Nb _ _ _ _)
theorem dO {key:List Nat} {k:Nat} {Zp data:List Nat} {i:Nat} (hi:i<data.length):(Pd key k Zp data).getD i 0=xN key k Zp data i:=Lq _ hi
def ky (B:Nat) (h':Hp) (v':Value) (key:List Nat) (k:Int) (Zp data:List Nat):Prop:=∃w,v'=.tuple [w,.int .i64 (Wy key k Zp data.length)].toArray∧ZZ B 5 h' w (if Wy key k Zp data.length=0 then Pd key k.toNat Zp data else [])
theorem KY {key:List Nat} {k:Int} {Zp:List Nat} (e:Xw key k Zp=0):key.length=32∧Zp.length=12∧0≤k∧k≤1073741824:=by
 unfold Xw at e
 repeat' split at e
 all_goals first|omega|cases e
theorem Bi (n:Nat):XI n [Value.int .u8 0]=(List.replicate n 0).map bv:=by
 induction n with
 | zero=>rfl
 | succ n ih=>rw[XI,ih];rfl
theorem kA (T:World) (h:Hp) (v u d:Value) (key Zp data:List Nat) (k:Int) (sk:Bs h v key) (sn:Bs h u Zp) (sd:Bs h d data) (ck:Td v) (cn:Td u) :
  Zc Tryz.prog T 66 #[v,.int .i64 k,u,d] h fun v' h'=>ky h.size h' v' key k Zp data∧Zf h.size h h':=by
 obtain⟨p,c,rfl,_⟩:=sk.open
 obtain⟨q,cn',rfl,_⟩:=sn.open
 obtain⟨pd,cd,rfl,hcd⟩:=sd.Uh
 refine Zc.Zh (args:=[_,_,_,_]) Tryz.func66 rfl rfl rfl rfl ?_
 unfold ky
 simp +contextual -implicitDefEqProofs only[go_sem,↓reduceIte]
 refine (O9 T _ _ _ _ _ _ _ _).pure ?_
 rw[show (if key.length≠32∨Zp.length≠12 then (1:Int) else if k<0∨1073741824<k then 2 else 0)=Xw key k Zp from rfl]
 by_cases e:Xw key k Zp=0
 ·by_cases el:2000<data.length
  ·have el':2000<(data.length:Int):=by omega
   have em:Wy key k Zp data.length=1:=by unfold Wy;rw[if_neg (by rw[e];decide),if_pos el]
   simp +contextual -implicitDefEqProofs only[go_sem,↓reduceIte,e,el',em]
   exact⟨_,rfl,ZZ.nil _ _ _⟩
  ·have el':¬2000<(data.length:Int):=by omega
   have em:Wy key k Zp data.length=0:=by unfold Wy;rw[if_neg (by rw[e];decide),if_neg el]
   obtain⟨hk,hn,k0,k1⟩:=KY e
   obtain⟨m,rfl⟩:∃m:Nat,k=m:=⟨k.toNat,by omega⟩
   rw[em,Int.toNat_natCast]
   obtain⟨X,hX⟩:=Zy (Pd key m Zp data)
   have hXl:X.length=data.length:=by rw[hX,Wm]
   have hXb:∀x∈X,x<256:=by rw[hX];exact dN sd.byte
   have uI:X.length=(List.replicate data.length 0).length:=by simp[hXl]
   have xl:∀j,(X.take j++(List.replicate data.length 0).drop j).length=data.length:=fun j=>by simp[hXl];omega
   rw[←hX]
   simp +contextual -implicitDefEqProofs only[go_sem,↓reduceIte,e,el',Bi]
   obtain⟨G,hG⟩:=Zy (h.push (.cells ((List.replicate data.length 0).map bv).toArray 5):Hp)
   have Rd:G[h.size]? = some (.cells ((X.take (64*0)++(List.replicate data.length 0).drop (64*0)).map bv++[]).toArray 5):=by
    rw[hG,Nat.mul_zero,Iy,List.append_nil];exact Zb
   have hb0:Zf h.size h G:=by rw[hG];exact Zf.push (Nat.le_refl _) _
   rw[←hG]
   clear hG
   refine VS.ZV (fun F g=>Zf h.size h g∧F 0=.slice p key.length c∧F 1=.int .i64 m∧F 2=.slice q Zp.length cn'∧F 3=.slice pd data.length cd∧F 11=.slice (some ⟨h.size,0,none⟩) data.length data.length∧∃j:Nat,64*j<data.length+64∧F 12=.int .i64 (64*j:Nat)∧g[h.size]? = some (.cells ((X.take (64*j)++(List.replicate data.length 0).drop (64*j)).map bv++[]).toArray 5))
    (fun F _=>data.length+64-(vi (F 12)).toNat) rfl ⟨hb0,rfl,rfl,rfl,rfl,rfl,0,by omega,rfl,Rd⟩ ?_
   clear Rd hb0 G
   rintro F g ⟨hg,f0,f1,f2,f3,f11,j,hj,f12,hx⟩
   have SI:=Za hx
   by_cases ZA:64*j<data.length
   ·have ZI:((64*j:Nat):Int)<data.length:=by omega
    have d1:((64*j:Nat):Int).tdiv 64=(j:Int):=by
     have:((64*j:Nat):Int).tdiv 64=((64*j/64:Nat):Int):=rfl
     rw[this];omega
    have d2:(m:Int)+(j:Int)=((m+j:Nat):Int):=by omega
    have d3:((m+j:Nat):Int)%4294967296=((m+j:Nat):Int):=by omega
    simp +contextual -implicitDefEqProofs only[go_sem,↓reduceIte,f0,f1,f2,f3,f12,ZI,d1,d2,d3]
    refine (Pb T _ _ _ key Zp (m+j) (sk.Z7 hg) (sn.Z7 hg) hk hn (by omega) ck cn).use ?_
    rintro _ g1 ⟨rfl,b1⟩
    have Ls:((Xi key (m+j) Zp).map bv).length=64:=by simp[Xi,KV]
    have Y8:=VA (Xi key (m+j) Zp)
    have hlb:(Xi key (m+j) Zp).length=64:=by simpa using Ls
    have Qg:=b1.get SI hx
    have QP:=hg.trans (b1.mono hg.size)
    have b1s:=b1.size
    obtain⟨W,hW⟩:=Zy (Xi key (m+j) Zp)
    have hWb:∀i,W.getD i 0<256:=fun i=>by rw[hW];exact Nb _ _ _ _
    rw[←hW]at Ls Y8 hlb ⊢
    simp +contextual -implicitDefEqProofs only[go_sem,↓reduceIte,Ls,Y8,ZM,f12]
    have uJ:(g1.push (.cells (W.map bv++[]).toArray 180))[g1.size]? = some (.cells (W.map bv++[]).toArray 180):=Zb
    rw[List.append_nil]at uJ
    have S9:(g1.push (.cells (W.map bv).toArray 180))[h.size]? = some (.cells ((X.take (64*j)++(List.replicate data.length 0).drop (64*j)).map bv++[]).toArray 5):=by rw[Zq (by omega)];exact Qg
    have Tn:Zf h.size h (g1.push (.cells (W.map bv).toArray 180)):=QP.Yf (by omega) _
    generalize g1.push (.cells (W.map bv).toArray 180)=G at *
    refine VS.ZV (fun F g=>Zf h.size h g∧F 0=.slice p key.length c∧F 1=.int .i64 m∧F 2=.slice q Zp.length cn'∧F 3=.slice pd data.length cd∧F 11=.slice (some ⟨h.size,0,none⟩) data.length data.length∧F 12=.int .i64 (64*j:Nat)∧F 13=.pointer (some ⟨g1.size,0,none⟩)∧g[g1.size]? = some (.cells (W.map bv).toArray 180)∧∃i:Nat,64*j≤i∧i≤64*j+64∧i≤data.length∧F 14=.int .i64 i∧g[h.size]? = some (.cells ((X.take i++(List.replicate data.length 0).drop i).map bv++[]).toArray 5))
     (fun F _=>data.length-(vi (F 14)).toNat) rfl ⟨Tn,f0,f1,f2,f3,f11,f12,rfl,uJ,64*j,by omega,by omega,by omega,rfl,S9⟩ ?_
    clear f0 f1 f2 f3 f11 f12 uJ S9 Qg Tn hx QP
    rintro F g2 ⟨Qt,f0,f1,f2,f3,f11,f12,f13,uJ,i,i1,i2,i3,f14,hx⟩
    by_cases Ol:i<64*j+64∧i<data.length
    ·obtain⟨l1,l2⟩:=Ol
     obtain⟨bd,od,rfl,Bj,hcd⟩:=hcd (by intro e;rw[e]at ZA;simp at ZA)
     have kC:(i:Int)<min (((64*j:Nat):Int)+64) (data.length:Int):=by omega
     have u1:V.hc g2 ⟨bd,od+i,none⟩=some (.int .u8 (data.getD i 0:Nat)):=by rw[Qt.hc (by exact Bj)];exact hcd i l2
     have hik:i-64*j<64:=by omega
     have u2:V.hc g2 ⟨g1.size,i-64*j,none⟩=some (.int .u8 (W.getD (i-64*j) 0:Nat)):=by
      rw[←List.append_nil (W.map bv)]at uJ
      exact ZJ uJ (i:=i-64*j) (by omega)
     have t1:(i:Int)-((64*j:Nat):Int)=((i-64*j:Nat):Int):=by omega
     have xb:=ZF sd.byte i
     have ex:=HF (data.getD i 0) (W.getD (i-64*j) 0) xb (hWb _)
     have exX:X.getD i 0=data.getD i 0 ^^^ W.getD (i-64*j) 0:=by
      rw[hX,dO l2,hW]
      unfold xN
      rw[show i/64=j by omega,show i%64=i-64*j by omega]
     rw[←exX]at ex
     have cs:Jg g2 ⟨h.size,i,none⟩ (.int .u8 (X.getD i 0:Nat))=_:=ZY (f:=bv) hx (i:=i) (by rw[xl];exact l2) _ rfl
     rw[Jn X _ i (by omega) uI]at cs
     simp +contextual -implicitDefEqProofs only[go_sem,↓reduceIte,f3,f12,f14,kC]
     have l2':(i:Int)<data.length:=by omega
     have t1':0≤(i:Int)-((64*j:Nat):Int):=by omega
     refine VS.w (g2.size) [13] (.q 0 (.q 1 (.q 2 (.q 3 (.q 4 (.q 5 (.q 6 (.q 7 (.q 8 (.q 9 (.q 10 (.q 11 (.q 12 (.w 13 .nil)))))))))))))) mixed (by kernel_rfl) ?_
     have Zkz:bd<g2.size:=Nat.lt_of_lt_of_le Bj Qt.size
     have hgw:=Za uJ
     simp +contextual -implicitDefEqProofs only[go_sem,↓reduceIte,f3,f11,f12,f13,f14,t1,Zkz,hgw,u1,u2,ex,cs]
     refine⟨⟨Qt.Zk (Nat.le_refl _) _,f0,f1,f2,f3,f11,f12,f13,?_,i+1,by omega,by omega,by omega,rfl,?_⟩,?_⟩
     ·rw[Array.getElem?_setIfInBounds,if_neg (by omega)];exact uJ
     ·exact ZO hx
     ·simp only[vi,Zj,↓reduceIte,f14];omega
    ·have kC:¬(i:Int)<min (((64*j:Nat):Int)+64) (data.length:Int):=by omega
     simp +contextual -implicitDefEqProofs only[go_sem,↓reduceIte,f3,f12,f14,kC]
     have e12:((64*j:Nat):Int)+64=((64*(j+1):Nat):Int):=by omega
     refine⟨⟨Qt,f0,f1,f2,f3,f11,j+1,by omega,by rw[←e12];rfl,?_⟩,?_⟩
     ·by_cases c1:i=64*j+64
      ·rw[show 64*(j+1)=i by omega];exact hx
      ·have e3:i=data.length:=by omega
       rw[List.take_of_length_le (show X.length≤64*(j+1) by omega),List.drop_of_length_le (show (List.replicate data.length 0).length≤64*(j+1) by simp;omega)]
       rw[List.take_of_length_le (show X.length≤i by omega),List.drop_of_length_le (show (List.replicate data.length 0).length≤i by simp;omega)]at hx
       exact hx
     ·simp only[vi,Zj,↓reduceIte,f12];omega
   ·have YF:¬((64*j:Nat):Int)<data.length:=by omega
    have e1:X.take (64*j)=X:=List.take_of_length_le (by omega)
    have e2:(List.replicate data.length 0).drop (64*j)=[]:=List.drop_of_length_le (by simp;omega)
    rw[e1,e2,List.append_nil,List.append_nil]at hx
    simp +contextual -implicitDefEqProofs only[go_sem,↓reduceIte,f3,f11,f12,YF,hg]
    refine⟨_,rfl,⟨.inr ⟨h.size,data.length,[],Nat.le_refl _,by rw[hXl],by rw[List.append_nil];exact hx,by simp,by rw[hXl];simp,by rw[hXl];exact Nat.le_refl _⟩,hXb⟩⟩
 ·have em:Wy key k Zp data.length=Xw key k Zp:=by unfold Wy;rw[if_pos e]
  rw[em]
  simp +contextual -implicitDefEqProofs only[go_sem,↓reduceIte,e]
  exact⟨_,rfl,ZZ.nil _ _ _⟩
end Go.Proofs.YtpomedigibbeeaaGreatDoor
