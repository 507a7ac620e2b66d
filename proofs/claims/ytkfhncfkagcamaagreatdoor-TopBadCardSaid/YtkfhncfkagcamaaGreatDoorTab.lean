/- The digest's table of numbers, off a row's list; a start that holds it; no condition but those in the statements. -/
import Derived.Test.YtkfhncfkagcamaaGreatDoorW16
import Derived.Test.YtkfhncfkagcamaaGreatDoorLchks
import Derived.ProofKit
import Derived.Test.YtkfhncfkagcamaaGreatDoorVst
namespace Go.Proofs.YtkfhncfkagcamaaGreatDoor
open Go Go.V
set_option linter.unusedSimpArgs false
set_option linter.unusedVariables false
set_option maxRecDepth 100000
theorem ZeR:Tryz.prog.globalNamed "conclave/sha.numbers" = some 1:=by kernel_rfl
theorem ZeS:(Tryz.prog.globals[1]?).map (·.type)=some 206:=by kernel_rfl
theorem tX:(Rows.laid_conclave_sha_numbers:DataW Unit)=Lib.tabData .u32 (kN.map fun n:Nat=>(n:Int)):=by kernel_rfl
theorem Zan {W:World} (h:laidMetH Tryz.prog [("conclave/sha.numbers", Rows.laid_conclave_sha_numbers)] W):En 1 wv kN W.heap:=by
 rw[tX]at h
 exact lH ZeR (Lib.tabIs_of_head (rest:=[]) ZeR ZeS Tryz.underlying206 Tryz.underlying175 (by kernel_rfl) (by kernel_rfl) h) (by decide)
theorem RH (os:Os) (args:Array Value):((World.doorLaid Tryz.prog 87 os).forCall (fun _ _=>0) ⟨#[],args,[]⟩).Shaped Tryz.prog:=World.shaped_of_RefB (by kernel_rfl) (by kernel_rfl)
def IG (k r:Nat):Prop:=(k=1∧r/2%2=1)∨(k=2∧r%2=1)∨(k=3∧r/4=1)
instance (k r:Nat):Decidable (IG k r):=by unfold IG;infer_instance
def VD (tc tr tu k c s n v now:Int):Int:=
 if XC tc tr tu≠0 then XC tc tr tu else
 if YI k c s n v≠0 then YI k c s n v else
 if ¬IG k.toNat tr.toNat∨tc≠c then 11 else
 if now<0∨tu<now then 10 else 0
def TA:List Nat:=[0,2,1,4]
def niv (x:Nat):Value:=.int .i64 (x:Nat)
theorem m7 {k r:Nat} (hk:k<4) (hr:r<8):Z8 .and .i64 (r:Nat) (TA.getD k 0:Nat)=0↔¬IG k r:=by
 rw[sc _ _ (by omega) (by rcases k with _|_|_|_|k<;>first|decide|omega)]
 have all:∀k,k<4→∀r,r<8→(r &&& TA.getD k 0=0↔¬IG k r):=by decide
 have:=all k hk r hr
 exact⟨fun h=>this.1 (by omega),fun h=>by have:=this.2 h;omega⟩
theorem Dp {c r u:Int} (h:XC c r u=0):∃c' r' u':Nat,c=c'∧r=r'∧u=u'∧c'<8∧r'<8∧u'≤1048576:=by
 unfold XC at h
 split at h
 ·cases h
 ·exact⟨c.toNat,r.toNat,u.toNat,by omega,by omega,by omega,by omega,by omega,by omega⟩
theorem Dq {k c s n v:Int} (h:YI k c s n v=0):∃k':Nat,k=k'∧k'<4:=by
 unfold YI at h
 split at h
 ·cases h
 ·exact⟨k.toNat,by omega,by omega⟩
theorem gy (T:World) (h:Hp) (tc tr tu k c s n v now:Int) (tn:En 0 niv TA h) :
  Zd Tryz.prog T 36 #[.agg (VY tc tr tu).toArray,.agg (Qi k c s n v).toArray,.int .i64 now] h fun v' h'=>v'=.int .i64 (VD tc tr tu k c s n v now)∧Ze h.size h h':=by
 refine Zd.Zi (args:=[_,_,_]) Tryz.func36 rfl rfl rfl rfl ?_
 unfold VY Qi
 have hb:(0:Nat)<h.size:=tn.1
 simp +contextual -implicitDefEqProofs only[go_sem,↓reduceIte]
 refine (Lz T _ tc tr tu).use ?_
 rintro _ _ ⟨rfl,rfl⟩
 unfold VY
 by_cases q1:XC tc tr tu=0
 case neg=>
  have e:VD tc tr tu k c s n v now=XC tc tr tu:=by unfold VD;rw[if_pos q1]
  rw[e]
  simp +contextual -implicitDefEqProofs only[go_sem,↓reduceIte,q1]
  (repeat' (first|exact Ze.refl _ _|assumption|refine Ze.add ?_ _|refine Ze.Zk ?_ (by first|omega|(simp;omega)) _|refine Ze.trans (by assumption) ?_))
 obtain⟨tc,tr,tu,rfl,rfl,rfl,b1,b2,b3⟩:=Dp q1
 simp +contextual -implicitDefEqProofs only[go_sem,↓reduceIte,q1]
 refine (JX T _ k c s n v).use ?_
 rintro _ _ ⟨rfl,rfl⟩
 unfold Qi
 by_cases q2:YI k c s n v=0
 case neg=>
  have e:VD tc tr tu k c s n v now=YI k c s n v:=by unfold VD;rw[if_neg (by omega),if_pos q2]
  rw[e]
  simp +contextual -implicitDefEqProofs only[go_sem,↓reduceIte,q2]
  (repeat' (first|exact Ze.refl _ _|assumption|refine Ze.add ?_ _|refine Ze.Zk ?_ (by first|omega|(simp;omega)) _|refine Ze.trans (by assumption) ?_))
 obtain⟨k,rfl,b4⟩:=Dq q2
 have n1:hc h ⟨0,k,none⟩=some (.int .i64 (TA.getD k 0:Nat)):=tn.2 k b4
 have n2:=m7 b4 b2
 have An:(k:Int)<4:=by omega
 have b5:0≤(k:Int):=by omega
 have b6:(k:Int).toNat=k:=by omega
 obtain⟨A,hA⟩:=Zu (Z8 .and .i64 (tr:Nat) (TA.getD k 0:Nat))
 rw[←hA]at n2
 have n3:Z8 .and .i64 (tr:Nat) (TA.getD k 0:Nat)=A:=hA.symm
 generalize TA.getD k 0=N at *
 clear hA
 have e:VD tc tr tu k c s n v now=if ¬IG k tr∨(tc:Int)≠c then 11 else if now<0∨(tu:Int)<now then 10 else 0:=by
  unfold VD;rw[if_neg (by omega),if_neg (by omega)];rfl
 rw[e]
 clear e
 have pk:∀(p:Prop),p→p=True:=fun p hp=>eq_true hp
 have pn:∀(p:Prop),¬p→p=False:=fun p hp=>eq_false hp
 rw[q2]
 by_cases k0:(k:Int)=0
 ·have z1:¬IG k tr:=by unfold IG;omega
  have k1:=pk _ k0
  rw[if_pos (.inl z1)]
  simp -implicitDefEqProofs only[go_sem,↓reduceIte,n1,k1,An,b5,b6]
  (repeat' (first|exact Ze.refl _ _|assumption|refine Ze.add ?_ _|refine Ze.Zk ?_ (by first|omega|(simp;omega)) _|refine Ze.trans (by assumption) ?_))
 ·have k1:=pn _ k0
  by_cases t0:(tc:Int)=c
  ·have t1:=pk _ t0
   by_cases a0:A=0
   ·have z1:=n2.1 a0
    rw[if_pos (.inl z1)]
    have a1:=pk _ a0
    simp -implicitDefEqProofs only[go_sem,↓reduceIte,n1,n3,k1,t1,a1,An,b5,b6]
    (repeat' (first|exact Ze.refl _ _|assumption|refine Ze.add ?_ _|refine Ze.Zk ?_ (by first|omega|(simp;omega)) _|refine Ze.trans (by assumption) ?_))
   ·have z1:IG k tr:=Decidable.not_not.1 (fun hn=>a0 (n2.2 hn))
    have a1:=pn _ a0
    rw[if_neg (by simp only[not_or,Decidable.not_not,ne_eq];exact⟨z1,t0⟩)]
    by_cases o1:now<0
    ·rw[if_pos (.inl o1)]
     simp -implicitDefEqProofs only[go_sem,↓reduceIte,n1,n3,k1,t1,a1,An,b5,b6,o1]
     (repeat' (first|exact Ze.refl _ _|assumption|refine Ze.add ?_ _|refine Ze.Zk ?_ (by first|omega|(simp;omega)) _|refine Ze.trans (by assumption) ?_))
    ·by_cases o2:(tu:Int)<now
     ·rw[if_pos (.inr o2)]
      simp -implicitDefEqProofs only[go_sem,↓reduceIte,n1,n3,k1,t1,a1,An,b5,b6,o1,o2]
      (repeat' (first|exact Ze.refl _ _|assumption|refine Ze.add ?_ _|refine Ze.Zk ?_ (by first|omega|(simp;omega)) _|refine Ze.trans (by assumption) ?_))
     ·rw[if_neg (by omega)]
      simp -implicitDefEqProofs only[go_sem,↓reduceIte,n1,n3,k1,t1,a1,An,b5,b6,o1,o2]
      (repeat' (first|exact Ze.refl _ _|assumption|refine Ze.add ?_ _|refine Ze.Zk ?_ (by first|omega|(simp;omega)) _|refine Ze.trans (by assumption) ?_))
  ·have t1:=pn _ t0
   rw[if_pos (.inr t0)]
   simp -implicitDefEqProofs only[go_sem,↓reduceIte,n1,k1,t1,An,b5,b6]
   (repeat' (first|exact Ze.refl _ _|assumption|refine Ze.add ?_ _|refine Ze.Zk ?_ (by first|omega|(simp;omega)) _|refine Ze.trans (by assumption) ?_))
theorem xF:Tryz.prog.globalNamed "conclave/order.need" = some 0:=by kernel_rfl
theorem Zao:(Tryz.prog.globals[0]?).map (·.type)=some 115:=by kernel_rfl
theorem nc:(Rows.laid_conclave_order_need:DataW Unit)=Lib.tabData .i64 (TA.map fun n:Nat=>(n:Int)):=by kernel_rfl
theorem tY {W:World} (h:laidMetH Tryz.prog [("conclave/order.need", Rows.laid_conclave_order_need)] W):En 0 niv TA W.heap:=by
 rw[nc]at h
 exact lH xF (Lib.tabIs_of_head (rest:=[]) xF Zao Tryz.underlying115 Tryz.underlying3 (by kernel_rfl) (by kernel_rfl) h) (by decide)
end Go.Proofs.YtkfhncfkagcamaaGreatDoor
