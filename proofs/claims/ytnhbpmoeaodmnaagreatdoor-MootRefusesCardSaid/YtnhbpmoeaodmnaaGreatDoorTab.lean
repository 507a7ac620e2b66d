/- The digest's table of numbers, off a row's list; a start that holds it; no condition but those in the statements. -/
import Derived.Test.YtnhbpmoeaodmnaaGreatDoorW16
import Derived.Test.YtnhbpmoeaodmnaaGreatDoorLchks
import Derived.ProofKit
import Derived.Test.YtnhbpmoeaodmnaaGreatDoorVst
namespace Go.Proofs.YtnhbpmoeaodmnaaGreatDoor
open Go Go.V
set_option linter.unusedSimpArgs false
set_option linter.unusedVariables false
set_option maxRecDepth 100000
theorem gSha:Tryz.prog.globalNamed "conclave/sha.numbers" = some 1:=by kernel_rfl
theorem gShaT:(Tryz.prog.globals[1]?).map (·.type)=some 217:=by kernel_rfl
theorem shaData:(Rows.laid_conclave_sha_numbers:DataW Unit)=Lib.tabData .u32 (kN.map fun n:Nat=>(n:Int)):=by kernel_rfl
theorem shaTab {W:World} (h:laidMetH Tryz.prog [("conclave/sha.numbers", Rows.laid_conclave_sha_numbers)] W):Tab 1 wv kN W.heap:=by
 rw [shaData] at h
 exact tab_of gSha (Lib.tabIs_of_head (rest:=[]) gSha gShaT Tryz.underlying217 Tryz.underlying187 (by kernel_rfl) (by kernel_rfl) h) (by decide)
theorem doorShaped (os:Os) (args:Array Value):((World.doorLaid Tryz.prog 87 os).forCall (fun _ _=>0) ⟨#[],args,[]⟩).Shaped Tryz.prog:=World.shaped_of_RefB (by kernel_rfl) (by kernel_rfl)
def hasR (k r:Nat):Prop:=(k=1∧r / 2 % 2=1)∨(k=2∧r % 2=1)∨(k=3∧r / 4=1)
instance (k r:Nat):Decidable (hasR k r):=by unfold hasR; infer_instance
def alErr (tc tr tu k c s n v now:Int):Int:=
 if tokErr tc tr tu≠0 then tokErr tc tr tu else
 if cmdErr k c s n v≠0 then cmdErr k c s n v else
 if ¬ hasR k.toNat tr.toNat∨tc≠c then 11 else
 if now<0∨tu<now then 10 else 0
def needN:List Nat:=[0,2,1,4]
def niv (x:Nat):Value:=.int .i64 (x:Nat)
theorem need_and {k r:Nat} (hk:k<4) (hr:r<8):bitOp .and .i64 (r:Nat) (needN.getD k 0:Nat)=0↔¬ hasR k r:=by
 rw [and_i64 _ _ (by omega) (by rcases k with _ | _ | _ | _ | k <;> first | decide | omega)]
 have all:∀ k,k<4→∀ r,r<8→(r &&& needN.getD k 0=0↔¬ hasR k r):=by decide
 have:=all k hk r hr
 exact ⟨fun h=>this.1 (by omega),fun h=>by have:=this.2 h; omega⟩
theorem tokErr_zero {c r u:Int} (h:tokErr c r u=0):∃ c' r' u':Nat,c=c'∧r=r'∧u=u'∧c'<8∧r'<8∧u'≤1048576:=by
 unfold tokErr at h
 split at h
 ·cases h
 ·exact ⟨c.toNat,r.toNat,u.toNat,by omega,by omega,by omega,by omega,by omega,by omega⟩
theorem cmdErr_kind {k c s n v:Int} (h:cmdErr k c s n v=0):∃ k':Nat,k=k'∧k'<4:=by
 unfold cmdErr at h
 split at h
 ·cases h
 ·exact ⟨k.toNat,by omega,by omega⟩
theorem allows_ok (T:World) (h:Hp) (tc tr tu k c s n v now:Int) (tn:Tab 0 niv needN h) :
  CallsH Tryz.prog T 57 #[.agg (tokC tc tr tu).toArray,.agg (cmdC k c s n v).toArray,.int .i64 now] h fun v' h'=>v'=.int .i64 (alErr tc tr tu k c s n v now)∧Bel h.size h h':=by
 refine CallsH.of_code' (args:=[_,_,_]) Tryz.func57 rfl rfl rfl rfl ?_
 unfold tokC cmdC
 have hb:(0:Nat)<h.size:=tn.1
 simp +contextual -implicitDefEqProofs (maxSteps:=2000000) only [go_sem,↓reduceIte]
 refine (token_ok T _ tc tr tu).use ?_
 rintro _ _ ⟨rfl,rfl⟩
 unfold tokC
 by_cases q1:tokErr tc tr tu=0
 case neg=>
  have e:alErr tc tr tu k c s n v now=tokErr tc tr tu:=by unfold alErr; rw [if_pos q1]
  rw [e]
  simp +contextual -implicitDefEqProofs (maxSteps:=2000000) only [go_sem,↓reduceIte,q1]
  (repeat' (first | exact Bel.refl _ _ | assumption | refine Bel.add ?_ _ | refine Bel.addSet ?_ (by first | omega | (simp; omega)) _ | refine Bel.trans (by assumption) ?_))
 obtain ⟨tc,tr,tu,rfl,rfl,rfl,b1,b2,b3⟩:=tokErr_zero q1
 simp +contextual -implicitDefEqProofs (maxSteps:=2000000) only [go_sem,↓reduceIte,q1]
 refine (orderCheck_ok T _ k c s n v).use ?_
 rintro _ _ ⟨rfl,rfl⟩
 unfold cmdC
 by_cases q2:cmdErr k c s n v=0
 case neg=>
  have e:alErr tc tr tu k c s n v now=cmdErr k c s n v:=by unfold alErr; rw [if_neg (by omega),if_pos q2]
  rw [e]
  simp +contextual -implicitDefEqProofs (maxSteps:=2000000) only [go_sem,↓reduceIte,q2]
  (repeat' (first | exact Bel.refl _ _ | assumption | refine Bel.add ?_ _ | refine Bel.addSet ?_ (by first | omega | (simp; omega)) _ | refine Bel.trans (by assumption) ?_))
 obtain ⟨k,rfl,b4⟩:=cmdErr_kind q2
 have n1:hc h ⟨0,k,none⟩=some (.int .i64 (needN.getD k 0:Nat)):=tn.2 k b4
 have n2:=need_and b4 b2
 have b4':(k:Int)<4:=by omega
 have b5:0≤(k:Int):=by omega
 have b6:(k:Int).toNat=k:=by omega
 obtain ⟨A,hA⟩:∃ A,A=bitOp .and .i64 (tr:Nat) (needN.getD k 0:Nat):=⟨_,rfl⟩
 rw [← hA] at n2
 have n3:bitOp .and .i64 (tr:Nat) (needN.getD k 0:Nat)=A:=hA.symm
 generalize needN.getD k 0=N at *
 clear hA
 have e:alErr tc tr tu k c s n v now=if ¬ hasR k tr∨(tc:Int)≠c then 11 else if now<0∨(tu:Int)<now then 10 else 0:=by
  unfold alErr; rw [if_neg (by omega),if_neg (by omega)]; rfl
 rw [e]
 clear e
 have pk:∀ (p:Prop),p→p=True:=fun p hp=>eq_true hp
 have pn:∀ (p:Prop),¬ p→p=False:=fun p hp=>eq_false hp
 rw [q2]
 by_cases k0:(k:Int)=0
 ·have z1:¬ hasR k tr:=by unfold hasR; omega
  have k1:=pk _ k0
  rw [if_pos (.inl z1)]
  simp -implicitDefEqProofs (maxSteps:=2000000) only [go_sem,↓reduceIte,n1,k1,b4',b5,b6]
  (repeat' (first | exact Bel.refl _ _ | assumption | refine Bel.add ?_ _ | refine Bel.addSet ?_ (by first | omega | (simp; omega)) _ | refine Bel.trans (by assumption) ?_))
 ·have k1:=pn _ k0
  by_cases t0:(tc:Int)=c
  ·have t1:=pk _ t0
   by_cases a0:A=0
   ·have z1:=n2.1 a0
    rw [if_pos (.inl z1)]
    have a1:=pk _ a0
    simp -implicitDefEqProofs (maxSteps:=2000000) only [go_sem,↓reduceIte,n1,n3,k1,t1,a1,b4',b5,b6]
    (repeat' (first | exact Bel.refl _ _ | assumption | refine Bel.add ?_ _ | refine Bel.addSet ?_ (by first | omega | (simp; omega)) _ | refine Bel.trans (by assumption) ?_))
   ·have z1:hasR k tr:=Decidable.not_not.1 (fun hn=>a0 (n2.2 hn))
    have a1:=pn _ a0
    rw [if_neg (by simp only [not_or,Decidable.not_not,ne_eq]; exact ⟨z1,t0⟩)]
    by_cases o1:now<0
    ·rw [if_pos (.inl o1)]
     simp -implicitDefEqProofs (maxSteps:=2000000) only [go_sem,↓reduceIte,n1,n3,k1,t1,a1,b4',b5,b6,o1]
     (repeat' (first | exact Bel.refl _ _ | assumption | refine Bel.add ?_ _ | refine Bel.addSet ?_ (by first | omega | (simp; omega)) _ | refine Bel.trans (by assumption) ?_))
    ·by_cases o2:(tu:Int)<now
     ·rw [if_pos (.inr o2)]
      simp -implicitDefEqProofs (maxSteps:=2000000) only [go_sem,↓reduceIte,n1,n3,k1,t1,a1,b4',b5,b6,o1,o2]
      (repeat' (first | exact Bel.refl _ _ | assumption | refine Bel.add ?_ _ | refine Bel.addSet ?_ (by first | omega | (simp; omega)) _ | refine Bel.trans (by assumption) ?_))
     ·rw [if_neg (by omega)]
      simp -implicitDefEqProofs (maxSteps:=2000000) only [go_sem,↓reduceIte,n1,n3,k1,t1,a1,b4',b5,b6,o1,o2]
      (repeat' (first | exact Bel.refl _ _ | assumption | refine Bel.add ?_ _ | refine Bel.addSet ?_ (by first | omega | (simp; omega)) _ | refine Bel.trans (by assumption) ?_))
  ·have t1:=pn _ t0
   rw [if_pos (.inr t0)]
   simp -implicitDefEqProofs (maxSteps:=2000000) only [go_sem,↓reduceIte,n1,k1,t1,b4',b5,b6]
   (repeat' (first | exact Bel.refl _ _ | assumption | refine Bel.add ?_ _ | refine Bel.addSet ?_ (by first | omega | (simp; omega)) _ | refine Bel.trans (by assumption) ?_))
theorem gNeed:Tryz.prog.globalNamed "conclave/order.need" = some 0:=by kernel_rfl
theorem gNeedT:(Tryz.prog.globals[0]?).map (·.type)=some 173:=by kernel_rfl
theorem needData:(Rows.laid_conclave_order_need:DataW Unit)=Lib.tabData .i64 (needN.map fun n:Nat=>(n:Int)):=by kernel_rfl
theorem needTab {W:World} (h:laidMetH Tryz.prog [("conclave/order.need", Rows.laid_conclave_order_need)] W):Tab 0 niv needN W.heap:=by
 rw [needData] at h
 exact tab_of gNeed (Lib.tabIs_of_head (rest:=[]) gNeed gNeedT Tryz.underlying173 Tryz.underlying3 (by kernel_rfl) (by kernel_rfl) h) (by decide)
end Go.Proofs.YtnhbpmoeaodmnaaGreatDoor
