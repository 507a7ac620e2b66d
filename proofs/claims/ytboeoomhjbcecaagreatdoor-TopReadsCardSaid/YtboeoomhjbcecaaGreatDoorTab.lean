/- The digest's table of numbers, off a row's list; a start that holds it; no condition but those in the statements. -/
import Derived.Test.YtboeoomhjbcecaaGreatDoorW16
import Derived.Test.YtboeoomhjbcecaaGreatDoorLchks
import Derived.ProofKit
import Derived.Test.YtboeoomhjbcecaaGreatDoorVst
namespace Go.Proofs.YtboeoomhjbcecaaGreatDoor
open Go Go.V
set_option linter.unusedSimpArgs false
set_option linter.unusedVariables false
set_option maxRecDepth 100000
theorem Zgq:Tryz.prog.globalNamed "conclave/sha.numbers" = some 0:=by kernel_rfl
theorem Zgr:(Tryz.prog.globals[0]?).map (·.type)=some 179:=by kernel_rfl
theorem vU:(Rows.laid_conclave_sha_numbers:DataW Unit)=Lib.tabData .u32 (kN.map fun n:Nat=>(n:Int)):=by kernel_rfl
theorem ZbV {W:World} (h:laidMetH Tryz.prog [("conclave/sha.numbers", Rows.laid_conclave_sha_numbers)] W):Dh 0 wv kN W.heap:=by
 rw[vU]at h;exact nG Zgq (Lib.tabIs_of_head (rest:=[]) Zgq Zgr Tryz.underlying179 Tryz.underlying153 (by kernel_rfl) (by kernel_rfl) h) (by decide)
theorem aP (os:Os) (args:Array Value):((World.doorLaid Tryz.prog 87 os).forCall (fun _ _=>0) ⟨#[],args,[]⟩).Shaped Tryz.prog:=World.shaped_of_RefB (by kernel_rfl) (by kernel_rfl)
def Ht (k r:Nat):Prop:=(k=1∧r/2%2=1)∨(k=2∧r%2=1)∨(k=3∧r/4=1)
instance (k r:Nat):Decidable (Ht k r):=by unfold Ht;infer_instance
def T4 (tc tr tu k c s n v now:Int):Int:=
 if X0 tc tr tu≠0 then X0 tc tr tu else
 if Yx k c s n v≠0 then Yx k c s n v else
 if ¬Ht k.toNat tr.toNat∨tc≠c then 11 else
 if now<0∨tu<now then 10 else 0
def T5:List Nat:=[0,2,1,4]
def niv (x:Nat):Value:=.int .i64 (x:Nat)
theorem pI {k r:Nat} (hk:k<4) (hr:r<8):Yc .and .i64 (r:Nat) (T5.getD k 0:Nat)=0↔¬Ht k r:=by
 rw[uQ _ _ (by omega) (by rcases k with _|_|_|_|k<;>first|decide|omega)];have all:∀k,k<4→∀r,r<8→(r &&& T5.getD k 0=0↔¬Ht k r):=by decide
 have:=all k hk r hr;exact⟨fun h=>this.1 (by omega),fun h=>by have:=this.2 h;omega⟩
theorem D7 {c r u:Int} (h:X0 c r u=0):∃c' r' u':Nat,c=c'∧r=r'∧u=u'∧c'<8∧r'<8∧u'≤1048576:=by
 unfold X0 at h;split at h
 ·cases h
 ·exact⟨c.toNat,r.toNat,u.toNat,by omega,by omega,by omega,by omega,by omega,by omega⟩
theorem D8 {k c s n v:Int} (h:Yx k c s n v=0):∃k':Nat,k=k'∧k'<4:=by
 unfold Yx at h;split at h
 ·cases h
 ·exact⟨k.toNat,by omega,by omega⟩
theorem iZ (T:World) (h:Hp) (tc tr tu k c s n v now:Int) (tn:Dh 1 niv T5 h) :
  Zc Tryz.prog T 63 #[.agg (TC tc tr tu).toArray,.agg (Qp k c s n v).toArray,.int .i64 now] h fun v' h'=>v'=.int .i64 (T4 tc tr tu k c s n v now)∧Zf h.size h h':=by
 refine Zc.Zk (args:=[_,_,_]) Tryz.func63 rfl rfl rfl rfl ?_;unfold TC Qp;have hb:(1:Nat)<h.size:=tn.1;simp +contextual -implicitDefEqProofs only[go_sem,↓reduceIte];refine (Kv T _ tc tr tu).use ?_;rintro _ _ ⟨rfl,rfl⟩;unfold TC;by_cases q1:X0 tc tr tu=0
 case neg=>
  have e:T4 tc tr tu k c s n v now=X0 tc tr tu:=by unfold T4;rw[if_pos q1]
  rw[e];simp +contextual -implicitDefEqProofs only[go_sem,↓reduceIte,q1]
  (repeat' (first|exact Zf.refl _ _|assumption|refine Zf.add ?_ _|refine Zf.Zm ?_ (by first|omega|(simp;omega)) _|refine Zf.trans (by assumption) ?_))
 obtain⟨tc,tr,tu,rfl,rfl,rfl,b1,b2,b3⟩:=D7 q1;simp +contextual -implicitDefEqProofs only[go_sem,↓reduceIte,q1];refine (Qq T _ k c s n v).use ?_;rintro _ _ ⟨rfl,rfl⟩;unfold Qp;by_cases q2:Yx k c s n v=0
 case neg=>
  have e:T4 tc tr tu k c s n v now=Yx k c s n v:=by unfold T4;rw[if_neg (by omega),if_pos q2]
  rw[e];simp +contextual -implicitDefEqProofs only[go_sem,↓reduceIte,q2]
  (repeat' (first|exact Zf.refl _ _|assumption|refine Zf.add ?_ _|refine Zf.Zm ?_ (by first|omega|(simp;omega)) _|refine Zf.trans (by assumption) ?_))
 obtain⟨k,rfl,b4⟩:=D8 q2;have n1:hc h ⟨1,k,none⟩=some (.int .i64 (T5.getD k 0:Nat)):=tn.2 k b4;have n2:=pI b4 b2;have ak:(k:Int)<4:=by omega
 have b5:0≤(k:Int):=by omega
 have b6:(k:Int).toNat=k:=by omega
 obtain⟨A,hA⟩:=Zx (Yc .and .i64 (tr:Nat) (T5.getD k 0:Nat));rw[←hA]at n2;have n3:Yc .and .i64 (tr:Nat) (T5.getD k 0:Nat)=A:=hA.symm;generalize T5.getD k 0=N at *;clear hA;have e:T4 tc tr tu k c s n v now=if ¬Ht k tr∨(tc:Int)≠c then 11 else if now<0∨(tu:Int)<now then 10 else 0:=by
  unfold T4;rw[if_neg (by omega),if_neg (by omega)];rfl
 rw[e];clear e;have pk:∀(p:Prop),p→p=True:=fun p hp=>eq_true hp;have pn:∀(p:Prop),¬p→p=False:=fun p hp=>eq_false hp;rw[q2];by_cases k0:(k:Int)=0
 ·have z1:¬Ht k tr:=by unfold Ht;omega
  have k1:=pk _ k0;rw[if_pos (.inl z1)];simp -implicitDefEqProofs only[go_sem,↓reduceIte,n1,k1,ak,b5,b6]
  (repeat' (first|exact Zf.refl _ _|assumption|refine Zf.add ?_ _|refine Zf.Zm ?_ (by first|omega|(simp;omega)) _|refine Zf.trans (by assumption) ?_))
 ·have k1:=pn _ k0;by_cases t0:(tc:Int)=c
  ·have t1:=pk _ t0;by_cases a0:A=0
   ·have z1:=n2.1 a0;rw[if_pos (.inl z1)];have a1:=pk _ a0;simp -implicitDefEqProofs only[go_sem,↓reduceIte,n1,n3,k1,t1,a1,ak,b5,b6]
    (repeat' (first|exact Zf.refl _ _|assumption|refine Zf.add ?_ _|refine Zf.Zm ?_ (by first|omega|(simp;omega)) _|refine Zf.trans (by assumption) ?_))
   ·have z1:Ht k tr:=Decidable.not_not.1 (fun hn=>a0 (n2.2 hn));have a1:=pn _ a0;rw[if_neg (by simp only[not_or,Decidable.not_not,ne_eq];exact⟨z1,t0⟩)];by_cases o1:now<0
    ·rw[if_pos (.inl o1)];simp -implicitDefEqProofs only[go_sem,↓reduceIte,n1,n3,k1,t1,a1,ak,b5,b6,o1]
     (repeat' (first|exact Zf.refl _ _|assumption|refine Zf.add ?_ _|refine Zf.Zm ?_ (by first|omega|(simp;omega)) _|refine Zf.trans (by assumption) ?_))
    ·by_cases o2:(tu:Int)<now
     ·rw[if_pos (.inr o2)];simp -implicitDefEqProofs only[go_sem,↓reduceIte,n1,n3,k1,t1,a1,ak,b5,b6,o1,o2]
      (repeat' (first|exact Zf.refl _ _|assumption|refine Zf.add ?_ _|refine Zf.Zm ?_ (by first|omega|(simp;omega)) _|refine Zf.trans (by assumption) ?_))
     ·rw[if_neg (by omega)];simp -implicitDefEqProofs only[go_sem,↓reduceIte,n1,n3,k1,t1,a1,ak,b5,b6,o1,o2]
      (repeat' (first|exact Zf.refl _ _|assumption|refine Zf.add ?_ _|refine Zf.Zm ?_ (by first|omega|(simp;omega)) _|refine Zf.trans (by assumption) ?_))
  ·have t1:=pn _ t0;rw[if_pos (.inr t0)];simp -implicitDefEqProofs only[go_sem,↓reduceIte,n1,k1,t1,ak,b5,b6]
   (repeat' (first|exact Zf.refl _ _|assumption|refine Zf.add ?_ _|refine Zf.Zm ?_ (by first|omega|(simp;omega)) _|refine Zf.trans (by assumption) ?_))
theorem zM:Tryz.prog.globalNamed "conclave/order.need" = some 1:=by kernel_rfl
theorem ZbW:(Tryz.prog.globals[1]?).map (·.type)=some 183:=by kernel_rfl
theorem pJ:(Rows.laid_conclave_order_need:DataW Unit)=Lib.tabData .i64 (T5.map fun n:Nat=>(n:Int)):=by kernel_rfl
theorem vV {W:World} (h:laidMetH Tryz.prog [("conclave/order.need", Rows.laid_conclave_order_need)] W):Dh 1 niv T5 W.heap:=by
 rw[pJ]at h;exact nG zM (Lib.tabIs_of_head (rest:=[]) zM ZbW Tryz.underlying183 Tryz.underlying3 (by kernel_rfl) (by kernel_rfl) h) (by decide)
end Go.Proofs.YtboeoomhjbcecaaGreatDoor
