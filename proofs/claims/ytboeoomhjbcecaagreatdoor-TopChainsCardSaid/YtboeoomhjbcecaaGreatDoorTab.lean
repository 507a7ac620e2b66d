/- The digest's table of numbers, off a row's list; a start that holds it; no condition but those in the statements. -/
import Derived.Test.YtboeoomhjbcecaaGreatDoorW16
import Derived.Test.YtboeoomhjbcecaaGreatDoorLchks
import Derived.ProofKit
import Derived.Test.YtboeoomhjbcecaaGreatDoorVst
namespace Go.Proofs.YtboeoomhjbcecaaGreatDoor
open Go Go.V
set_option linter.unusedSimpArgs false
set_option linter.unusedVariables false
set_option maxRecDepth 100000
theorem Zgp:Tryz.prog.globalNamed "conclave/sha.numbers" = some 0:=by kernel_rfl
theorem Zgq:(Tryz.prog.globals[0]?).map (·.type)=some 179:=by kernel_rfl
theorem wh:(Rows.laid_conclave_sha_numbers:DataW Unit)=Lib.tabData .u32 (kN.map fun n:Nat=>(n:Int)):=by kernel_rfl
theorem ZbX {W:World} (h:laidMetH Tryz.prog [("conclave/sha.numbers", Rows.laid_conclave_sha_numbers)] W):Dk 0 wv kN W.heap:=by
 rw[wh]at h;exact nM Zgp (Lib.tabIs_of_head (rest:=[]) Zgp Zgq Tryz.underlying179 Tryz.underlying153 (by kernel_rfl) (by kernel_rfl) h) (by decide)
theorem aQ (os:Os) (args:Array Value):((World.doorLaid Tryz.prog 87 os).forCall (fun _ _=>0) ⟨#[],args,[]⟩).Shaped Tryz.prog:=World.shaped_of_RefB (by kernel_rfl) (by kernel_rfl)
def Hm (k r:Nat):Prop:=(k=1∧r/2%2=1)∨(k=2∧r%2=1)∨(k=3∧r/4=1)
instance (k r:Nat):Decidable (Hm k r):=by unfold Hm;infer_instance
def TX (tc tr tu k c s n v now:Int):Int:=
 if XW tc tr tu≠0 then XW tc tr tu else
 if YH k c s n v≠0 then YH k c s n v else
 if ¬Hm k.toNat tr.toNat∨tc≠c then 11 else
 if now<0∨tu<now then 10 else 0
def TY:List Nat:=[0,2,1,4]
def niv (x:Nat):Value:=.int .i64 (x:Nat)
theorem pP {k r:Nat} (hk:k<4) (hr:r<8):Yb .and .i64 (r:Nat) (TY.getD k 0:Nat)=0↔¬Hm k r:=by
 rw[uV _ _ (by omega) (by rcases k with _|_|_|_|k<;>first|decide|omega)];have all:∀k,k<4→∀r,r<8→(r &&& TY.getD k 0=0↔¬Hm k r):=by decide
 have:=all k hk r hr;exact⟨fun h=>this.1 (by omega),fun h=>by have:=this.2 h;omega⟩
theorem Ca {c r u:Int} (h:XW c r u=0):∃c' r' u':Nat,c=c'∧r=r'∧u=u'∧c'<8∧r'<8∧u'≤1048576:=by
 unfold XW at h;split at h
 ·cases h
 ·exact⟨c.toNat,r.toNat,u.toNat,by omega,by omega,by omega,by omega,by omega,by omega⟩
theorem Cb {k c s n v:Int} (h:YH k c s n v=0):∃k':Nat,k=k'∧k'<4:=by
 unfold YH at h;split at h
 ·cases h
 ·exact⟨k.toNat,by omega,by omega⟩
theorem iW (T:World) (h:Hp) (tc tr tu k c s n v now:Int) (tn:Dk 1 niv TY h) :
  Zc Tryz.prog T 63 #[.agg (Tw tc tr tu).toArray,.agg (Qk k c s n v).toArray,.int .i64 now] h fun v' h'=>v'=.int .i64 (TX tc tr tu k c s n v now)∧Zg h.size h h':=by
 refine Zc.Zj (args:=[_,_,_]) Tryz.func63 rfl rfl rfl rfl ?_;unfold Tw Qk;have hb:(1:Nat)<h.size:=tn.1;simp +contextual -implicitDefEqProofs only[go_sem,↓reduceIte];refine (Ko T _ tc tr tu).use ?_;rintro _ _ ⟨rfl,rfl⟩;unfold Tw;by_cases q1:XW tc tr tu=0
 case neg=>
  have e:TX tc tr tu k c s n v now=XW tc tr tu:=by unfold TX;rw[if_pos q1]
  rw[e];simp +contextual -implicitDefEqProofs only[go_sem,↓reduceIte,q1]
  (repeat' (first|exact Zg.refl _ _|assumption|refine Zg.add ?_ _|refine Zg.Zk ?_ (by first|omega|(simp;omega)) _|refine Zg.trans (by assumption) ?_))
 obtain⟨tc,tr,tu,rfl,rfl,rfl,b1,b2,b3⟩:=Ca q1;simp +contextual -implicitDefEqProofs only[go_sem,↓reduceIte,q1];refine (Ql T _ k c s n v).use ?_;rintro _ _ ⟨rfl,rfl⟩;unfold Qk;by_cases q2:YH k c s n v=0
 case neg=>
  have e:TX tc tr tu k c s n v now=YH k c s n v:=by unfold TX;rw[if_neg (by omega),if_pos q2]
  rw[e];simp +contextual -implicitDefEqProofs only[go_sem,↓reduceIte,q2]
  (repeat' (first|exact Zg.refl _ _|assumption|refine Zg.add ?_ _|refine Zg.Zk ?_ (by first|omega|(simp;omega)) _|refine Zg.trans (by assumption) ?_))
 obtain⟨k,rfl,b4⟩:=Cb q2;have n1:hc h ⟨1,k,none⟩=some (.int .i64 (TY.getD k 0:Nat)):=tn.2 k b4;have n2:=pP b4 b2;have aq:(k:Int)<4:=by omega
 have b5:0≤(k:Int):=by omega
 have b6:(k:Int).toNat=k:=by omega
 obtain⟨A,hA⟩:=Zy (Yb .and .i64 (tr:Nat) (TY.getD k 0:Nat));rw[←hA]at n2;have n3:Yb .and .i64 (tr:Nat) (TY.getD k 0:Nat)=A:=hA.symm;generalize TY.getD k 0=N at *;clear hA;have e:TX tc tr tu k c s n v now=if ¬Hm k tr∨(tc:Int)≠c then 11 else if now<0∨(tu:Int)<now then 10 else 0:=by
  unfold TX;rw[if_neg (by omega),if_neg (by omega)];rfl
 rw[e];clear e;have pk:∀(p:Prop),p→p=True:=fun p hp=>eq_true hp;have pn:∀(p:Prop),¬p→p=False:=fun p hp=>eq_false hp;rw[q2];by_cases k0:(k:Int)=0
 ·have z1:¬Hm k tr:=by unfold Hm;omega
  have k1:=pk _ k0;rw[if_pos (.inl z1)];simp -implicitDefEqProofs only[go_sem,↓reduceIte,n1,k1,aq,b5,b6]
  (repeat' (first|exact Zg.refl _ _|assumption|refine Zg.add ?_ _|refine Zg.Zk ?_ (by first|omega|(simp;omega)) _|refine Zg.trans (by assumption) ?_))
 ·have k1:=pn _ k0;by_cases t0:(tc:Int)=c
  ·have t1:=pk _ t0;by_cases a0:A=0
   ·have z1:=n2.1 a0;rw[if_pos (.inl z1)];have a1:=pk _ a0;simp -implicitDefEqProofs only[go_sem,↓reduceIte,n1,n3,k1,t1,a1,aq,b5,b6]
    (repeat' (first|exact Zg.refl _ _|assumption|refine Zg.add ?_ _|refine Zg.Zk ?_ (by first|omega|(simp;omega)) _|refine Zg.trans (by assumption) ?_))
   ·have z1:Hm k tr:=Decidable.not_not.1 (fun hn=>a0 (n2.2 hn));have a1:=pn _ a0;rw[if_neg (by simp only[not_or,Decidable.not_not,ne_eq];exact⟨z1,t0⟩)];by_cases o1:now<0
    ·rw[if_pos (.inl o1)];simp -implicitDefEqProofs only[go_sem,↓reduceIte,n1,n3,k1,t1,a1,aq,b5,b6,o1]
     (repeat' (first|exact Zg.refl _ _|assumption|refine Zg.add ?_ _|refine Zg.Zk ?_ (by first|omega|(simp;omega)) _|refine Zg.trans (by assumption) ?_))
    ·by_cases o2:(tu:Int)<now
     ·rw[if_pos (.inr o2)];simp -implicitDefEqProofs only[go_sem,↓reduceIte,n1,n3,k1,t1,a1,aq,b5,b6,o1,o2]
      (repeat' (first|exact Zg.refl _ _|assumption|refine Zg.add ?_ _|refine Zg.Zk ?_ (by first|omega|(simp;omega)) _|refine Zg.trans (by assumption) ?_))
     ·rw[if_neg (by omega)];simp -implicitDefEqProofs only[go_sem,↓reduceIte,n1,n3,k1,t1,a1,aq,b5,b6,o1,o2]
      (repeat' (first|exact Zg.refl _ _|assumption|refine Zg.add ?_ _|refine Zg.Zk ?_ (by first|omega|(simp;omega)) _|refine Zg.trans (by assumption) ?_))
  ·have t1:=pn _ t0;rw[if_pos (.inr t0)];simp -implicitDefEqProofs only[go_sem,↓reduceIte,n1,k1,t1,aq,b5,b6]
   (repeat' (first|exact Zg.refl _ _|assumption|refine Zg.add ?_ _|refine Zg.Zk ?_ (by first|omega|(simp;omega)) _|refine Zg.trans (by assumption) ?_))
theorem zQ:Tryz.prog.globalNamed "conclave/order.need" = some 1:=by kernel_rfl
theorem ZbY:(Tryz.prog.globals[1]?).map (·.type)=some 183:=by kernel_rfl
theorem pQ:(Rows.laid_conclave_order_need:DataW Unit)=Lib.tabData .i64 (TY.map fun n:Nat=>(n:Int)):=by kernel_rfl
theorem wm {W:World} (h:laidMetH Tryz.prog [("conclave/order.need", Rows.laid_conclave_order_need)] W):Dk 1 niv TY W.heap:=by
 rw[pQ]at h;exact nM zQ (Lib.tabIs_of_head (rest:=[]) zQ ZbY Tryz.underlying183 Tryz.underlying3 (by kernel_rfl) (by kernel_rfl) h) (by decide)
end Go.Proofs.YtboeoomhjbcecaaGreatDoor
