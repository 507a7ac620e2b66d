/- The digest's table of numbers, off a row's list; a start that holds it; no condition but those in the statements. -/
import Derived.Test.YtpomedigibbeeaaGreatDoorW16
import Derived.Test.YtpomedigibbeeaaGreatDoorLchks
import Derived.ProofKit
import Derived.Test.YtpomedigibbeeaaGreatDoorVst
namespace Go.Proofs.YtpomedigibbeeaaGreatDoor
open Go Go.V
set_option linter.unusedSimpArgs false
set_option linter.unusedVariables false
set_option maxRecDepth 100000
theorem Zdy:Tryz.prog.globalNamed "conclave/sha.numbers" = some 1:=by kernel_rfl
theorem Zdz:(Tryz.prog.globals[1]?).map (·.type)=some 201:=by kernel_rfl
theorem qU:(Rows.laid_conclave_sha_numbers:DataW Unit)=Lib.tabData .u32 (kN.map fun n:Nat=>(n:Int)):=by kernel_rfl
theorem yu {W:World} (h:laidMetH Tryz.prog [("conclave/sha.numbers", Rows.laid_conclave_sha_numbers)] W):FF 1 wv kN W.heap:=by
 rw[qU]at h
 exact jQ Zdy (Lib.tabIs_of_head (rest:=[]) Zdy Zdz Tryz.underlying201 Tryz.underlying182 (by kernel_rfl) (by kernel_rfl) h) (by decide)
theorem BM (os:Os) (args:Array Value):((World.doorLaid Tryz.prog 87 os).forCall (fun _ _=>0) ⟨#[],args,[]⟩).Shaped Tryz.prog:=World.shaped_of_RefB (by kernel_rfl) (by kernel_rfl)
def Gv (k r:Nat):Prop:=(k=1∧r/2%2=1)∨(k=2∧r%2=1)∨(k=3∧r/4=1)
instance (k r:Nat):Decidable (Gv k r):=by unfold Gv;infer_instance
def Pz (tc tr tu k c s n v now:Int):Int:=
 if XR tc tr tu≠0 then XR tc tr tu else
 if YJ k c s n v≠0 then YJ k c s n v else
 if ¬Gv k.toNat tr.toNat∨tc≠c then 11 else
 if now<0∨tu<now then 10 else 0
def Ta:List Nat:=[0,2,1,4]
def niv (x:Nat):Value:=.int .i64 (x:Nat)
theorem lj {k r:Nat} (hk:k<4) (hr:r<8):Z5 .and .i64 (r:Nat) (Ta.getD k 0:Nat)=0↔¬Gv k r:=by
 rw[pX _ _ (by omega) (by rcases k with _|_|_|_|k<;>first|decide|omega)]
 have all:∀k,k<4→∀r,r<8→(r &&& Ta.getD k 0=0↔¬Gv k r):=by decide
 have:=all k hk r hr
 exact⟨fun h=>this.1 (by omega),fun h=>by have:=this.2 h;omega⟩
theorem ED {c r u:Int} (h:XR c r u=0):∃c' r' u':Nat,c=c'∧r=r'∧u=u'∧c'<8∧r'<8∧u'≤1048576:=by
 unfold XR at h
 split at h
 ·cases h
 ·exact⟨c.toNat,r.toNat,u.toNat,by omega,by omega,by omega,by omega,by omega,by omega⟩
theorem EE {k c s n v:Int} (h:YJ k c s n v=0):∃k':Nat,k=k'∧k'<4:=by
 unfold YJ at h
 split at h
 ·cases h
 ·exact⟨k.toNat,by omega,by omega⟩
theorem eO (T:World) (h:Hp) (tc tr tu k c s n v now:Int) (tn:FF 0 niv Ta h) :
  Zc Tryz.prog T 26 #[.agg (VD tc tr tu).toArray,.agg (Qb k c s n v).toArray,.int .i64 now] h fun v' h'=>v'=.int .i64 (Pz tc tr tu k c s n v now)∧Zf h.size h h':=by
 refine Zc.Zh (args:=[_,_,_]) Tryz.func26 rfl rfl rfl rfl ?_
 unfold VD Qb
 have hb:(0:Nat)<h.size:=tn.1
 simp +contextual -implicitDefEqProofs only[go_sem,↓reduceIte]
 refine (Li T _ tc tr tu).use ?_
 rintro _ _ ⟨rfl,rfl⟩
 unfold VD
 by_cases q1:XR tc tr tu=0
 case neg=>
  have e:Pz tc tr tu k c s n v now=XR tc tr tu:=by unfold Pz;rw[if_pos q1]
  rw[e]
  simp +contextual -implicitDefEqProofs only[go_sem,↓reduceIte,q1]
  (repeat' (first|exact Zf.refl _ _|assumption|refine Zf.add ?_ _|refine Zf.Zk ?_ (by first|omega|(simp;omega)) _|refine Zf.trans (by assumption) ?_))
 obtain⟨tc,tr,tu,rfl,rfl,rfl,b1,b2,b3⟩:=ED q1
 simp +contextual -implicitDefEqProofs only[go_sem,↓reduceIte,q1]
 refine (JO T _ k c s n v).use ?_
 rintro _ _ ⟨rfl,rfl⟩
 unfold Qb
 by_cases q2:YJ k c s n v=0
 case neg=>
  have e:Pz tc tr tu k c s n v now=YJ k c s n v:=by unfold Pz;rw[if_neg (by omega),if_pos q2]
  rw[e]
  simp +contextual -implicitDefEqProofs only[go_sem,↓reduceIte,q2]
  (repeat' (first|exact Zf.refl _ _|assumption|refine Zf.add ?_ _|refine Zf.Zk ?_ (by first|omega|(simp;omega)) _|refine Zf.trans (by assumption) ?_))
 obtain⟨k,rfl,b4⟩:=EE q2
 have n1:hc h ⟨0,k,none⟩=some (.int .i64 (Ta.getD k 0:Nat)):=tn.2 k b4
 have n2:=lj b4 b2
 have Bl:(k:Int)<4:=by omega
 have b5:0≤(k:Int):=by omega
 have b6:(k:Int).toNat=k:=by omega
 obtain⟨A,hA⟩:=Zy (Z5 .and .i64 (tr:Nat) (Ta.getD k 0:Nat))
 rw[←hA]at n2
 have n3:Z5 .and .i64 (tr:Nat) (Ta.getD k 0:Nat)=A:=hA.symm
 generalize Ta.getD k 0=N at *
 clear hA
 have e:Pz tc tr tu k c s n v now=if ¬Gv k tr∨(tc:Int)≠c then 11 else if now<0∨(tu:Int)<now then 10 else 0:=by
  unfold Pz;rw[if_neg (by omega),if_neg (by omega)];rfl
 rw[e]
 clear e
 have pk:∀(p:Prop),p→p=True:=fun p hp=>eq_true hp
 have pn:∀(p:Prop),¬p→p=False:=fun p hp=>eq_false hp
 rw[q2]
 by_cases k0:(k:Int)=0
 ·have z1:¬Gv k tr:=by unfold Gv;omega
  have k1:=pk _ k0
  rw[if_pos (.inl z1)]
  simp -implicitDefEqProofs only[go_sem,↓reduceIte,n1,k1,Bl,b5,b6]
  (repeat' (first|exact Zf.refl _ _|assumption|refine Zf.add ?_ _|refine Zf.Zk ?_ (by first|omega|(simp;omega)) _|refine Zf.trans (by assumption) ?_))
 ·have k1:=pn _ k0
  by_cases t0:(tc:Int)=c
  ·have t1:=pk _ t0
   by_cases a0:A=0
   ·have z1:=n2.1 a0
    rw[if_pos (.inl z1)]
    have a1:=pk _ a0
    simp -implicitDefEqProofs only[go_sem,↓reduceIte,n1,n3,k1,t1,a1,Bl,b5,b6]
    (repeat' (first|exact Zf.refl _ _|assumption|refine Zf.add ?_ _|refine Zf.Zk ?_ (by first|omega|(simp;omega)) _|refine Zf.trans (by assumption) ?_))
   ·have z1:Gv k tr:=Decidable.not_not.1 (fun hn=>a0 (n2.2 hn))
    have a1:=pn _ a0
    rw[if_neg (by simp only[not_or,Decidable.not_not,ne_eq];exact⟨z1,t0⟩)]
    by_cases o1:now<0
    ·rw[if_pos (.inl o1)]
     simp -implicitDefEqProofs only[go_sem,↓reduceIte,n1,n3,k1,t1,a1,Bl,b5,b6,o1]
     (repeat' (first|exact Zf.refl _ _|assumption|refine Zf.add ?_ _|refine Zf.Zk ?_ (by first|omega|(simp;omega)) _|refine Zf.trans (by assumption) ?_))
    ·by_cases o2:(tu:Int)<now
     ·rw[if_pos (.inr o2)]
      simp -implicitDefEqProofs only[go_sem,↓reduceIte,n1,n3,k1,t1,a1,Bl,b5,b6,o1,o2]
      (repeat' (first|exact Zf.refl _ _|assumption|refine Zf.add ?_ _|refine Zf.Zk ?_ (by first|omega|(simp;omega)) _|refine Zf.trans (by assumption) ?_))
     ·rw[if_neg (by omega)]
      simp -implicitDefEqProofs only[go_sem,↓reduceIte,n1,n3,k1,t1,a1,Bl,b5,b6,o1,o2]
      (repeat' (first|exact Zf.refl _ _|assumption|refine Zf.add ?_ _|refine Zf.Zk ?_ (by first|omega|(simp;omega)) _|refine Zf.trans (by assumption) ?_))
  ·have t1:=pn _ t0
   rw[if_pos (.inr t0)]
   simp -implicitDefEqProofs only[go_sem,↓reduceIte,n1,k1,t1,Bl,b5,b6]
   (repeat' (first|exact Zf.refl _ _|assumption|refine Zf.add ?_ _|refine Zf.Zk ?_ (by first|omega|(simp;omega)) _|refine Zf.trans (by assumption) ?_))
theorem uT:Tryz.prog.globalNamed "conclave/order.need" = some 0:=by kernel_rfl
theorem yv:(Tryz.prog.globals[0]?).map (·.type)=some 125:=by kernel_rfl
theorem ln:(Rows.laid_conclave_order_need:DataW Unit)=Lib.tabData .i64 (Ta.map fun n:Nat=>(n:Int)):=by kernel_rfl
theorem qV {W:World} (h:laidMetH Tryz.prog [("conclave/order.need", Rows.laid_conclave_order_need)] W):FF 0 niv Ta W.heap:=by
 rw[ln]at h
 exact jQ uT (Lib.tabIs_of_head (rest:=[]) uT yv Tryz.underlying125 Tryz.underlying3 (by kernel_rfl) (by kernel_rfl) h) (by decide)
end Go.Proofs.YtpomedigibbeeaaGreatDoor
