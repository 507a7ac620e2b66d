/- The digest's table of numbers, off a row's list; a start that holds it; no condition but those in the statements. -/
import Derived.Test.YtnhbpmoeaodmnaaGreatDoorW16
import Derived.Test.YtnhbpmoeaodmnaaGreatDoorLchks
import Derived.ProofKit
import Derived.Test.YtnhbpmoeaodmnaaGreatDoorVst
namespace Go.Proofs.YtnhbpmoeaodmnaaGreatDoor
open Go Go.V
set_option linter.unusedSimpArgs false
set_option linter.unusedVariables false
set_option maxRecDepth 100000
theorem ZBa:Tryz.prog.globalNamed "conclave/sha.numbers" = some 1:=by kernel_rfl
theorem ZBb:(Tryz.prog.globals[1]?).map (·.type)=some 217:=by kernel_rfl
theorem ZvM:(Rows.laid_conclave_sha_numbers:DataW Unit)=Lib.tabData .u32 (kN.map fun n:Nat=>(n:Int)):=by kernel_rfl
theorem Zyj {W:World} (h:laidMetH Tryz.prog [("conclave/sha.numbers", Rows.laid_conclave_sha_numbers)] W):Tab 1 wv kN W.heap:=by
 rw[ZvM]at h
 exact Zsn ZBa (Lib.tabIs_of_head (rest:=[]) ZBa ZBb Tryz.underlying217 Tryz.underlying187 (by kernel_rfl) (by kernel_rfl) h) (by decide)
theorem Zno (os:Os) (args:Array Value):((World.doorLaid Tryz.prog 87 os).forCall (fun _ _=>0) ⟨#[],args,[]⟩).Shaped Tryz.prog:=World.shaped_of_RefB (by kernel_rfl) (by kernel_rfl)
def Zju (k r:Nat):Prop:=(k=1∧r/2%2=1)∨(k=2∧r%2=1)∨(k=3∧r/4=1)
instance (k r:Nat):Decidable (Zju k r):=by unfold Zju;infer_instance
def Zd0 (tc tr tu k c s n v now:Int):Int:=
 if XW tc tr tu≠0 then XW tc tr tu else
 if YQ k c s n v≠0 then YQ k c s n v else
 if ¬Zju k.toNat tr.toNat∨tc≠c then 11 else
 if now<0∨tu<now then 10 else 0
def ZbH:List Nat:=[0,2,1,4]
def niv (x:Nat):Value:=.int .i64 (x:Nat)
theorem Zs9 {k r:Nat} (hk:k<4) (hr:r<8):Z7 .and .i64 (r:Nat) (ZbH.getD k 0:Nat)=0↔¬Zju k r:=by
 rw[Zvc _ _ (by omega) (by rcases k with _|_|_|_|k<;>first|decide|omega)]
 have all:∀k,k<4→∀r,r<8→(r &&& ZbH.getD k 0=0↔¬Zju k r):=by decide
 have:=all k hk r hr
 exact⟨fun h=>this.1 (by omega),fun h=>by have:=this.2 h;omega⟩
theorem Zk3 {c r u:Int} (h:XW c r u=0):∃c' r' u':Nat,c=c'∧r=r'∧u=u'∧c'<8∧r'<8∧u'≤1048576:=by
 unfold XW at h
 split at h
 ·cases h
 ·exact⟨c.toNat,r.toNat,u.toNat,by omega,by omega,by omega,by omega,by omega,by omega⟩
theorem Zk4 {k c s n v:Int} (h:YQ k c s n v=0):∃k':Nat,k=k'∧k'<4:=by
 unfold YQ at h
 split at h
 ·cases h
 ·exact⟨k.toNat,by omega,by omega⟩
theorem Zql (T:World) (h:Hp) (tc tr tu k c s n v now:Int) (tn:Tab 0 niv ZbH h) :
  Zd Tryz.prog T 57 #[.agg (Zbl tc tr tu).toArray,.agg (Qr k c s n v).toArray,.int .i64 now] h fun v' h'=>v'=.int .i64 (Zd0 tc tr tu k c s n v now)∧Zf h.size h h':=by
 refine Zd.Zi (args:=[_,_,_]) Tryz.func57 rfl rfl rfl rfl ?_
 unfold Zbl Qr
 have hb:(0:Nat)<h.size:=tn.1
 simp +contextual -implicitDefEqProofs only[go_sem,↓reduceIte]
 refine (Zgo T _ tc tr tu).use ?_
 rintro _ _ ⟨rfl,rfl⟩
 unfold Zbl
 by_cases q1:XW tc tr tu=0
 case neg=>
  have e:Zd0 tc tr tu k c s n v now=XW tc tr tu:=by unfold Zd0;rw[if_pos q1]
  rw[e]
  simp +contextual -implicitDefEqProofs only[go_sem,↓reduceIte,q1]
  (repeat' (first|exact Zf.refl _ _|assumption|refine Zf.add ?_ _|refine Zf.Zj ?_ (by first|omega|(simp;omega)) _|refine Zf.trans (by assumption) ?_))
 obtain⟨tc,tr,tu,rfl,rfl,rfl,b1,b2,b3⟩:=Zk3 q1
 simp +contextual -implicitDefEqProofs only[go_sem,↓reduceIte,q1]
 refine (JZ T _ k c s n v).use ?_
 rintro _ _ ⟨rfl,rfl⟩
 unfold Qr
 by_cases q2:YQ k c s n v=0
 case neg=>
  have e:Zd0 tc tr tu k c s n v now=YQ k c s n v:=by unfold Zd0;rw[if_neg (by omega),if_pos q2]
  rw[e]
  simp +contextual -implicitDefEqProofs only[go_sem,↓reduceIte,q2]
  (repeat' (first|exact Zf.refl _ _|assumption|refine Zf.add ?_ _|refine Zf.Zj ?_ (by first|omega|(simp;omega)) _|refine Zf.trans (by assumption) ?_))
 obtain⟨k,rfl,b4⟩:=Zk4 q2
 have n1:hc h ⟨0,k,none⟩=some (.int .i64 (ZbH.getD k 0:Nat)):=tn.2 k b4
 have n2:=Zs9 b4 b2
 have b4':(k:Int)<4:=by omega
 have b5:0≤(k:Int):=by omega
 have b6:(k:Int).toNat=k:=by omega
 obtain⟨A,hA⟩:=Zx (Z7 .and .i64 (tr:Nat) (ZbH.getD k 0:Nat))
 rw[←hA]at n2
 have n3:Z7 .and .i64 (tr:Nat) (ZbH.getD k 0:Nat)=A:=hA.symm
 generalize ZbH.getD k 0=N at *
 clear hA
 have e:Zd0 tc tr tu k c s n v now=if ¬Zju k tr∨(tc:Int)≠c then 11 else if now<0∨(tu:Int)<now then 10 else 0:=by
  unfold Zd0;rw[if_neg (by omega),if_neg (by omega)];rfl
 rw[e]
 clear e
 have pk:∀(p:Prop),p→p=True:=fun p hp=>eq_true hp
 have pn:∀(p:Prop),¬p→p=False:=fun p hp=>eq_false hp
 rw[q2]
 by_cases k0:(k:Int)=0
 ·have z1:¬Zju k tr:=by unfold Zju;omega
  have k1:=pk _ k0
  rw[if_pos (.inl z1)]
  simp -implicitDefEqProofs only[go_sem,↓reduceIte,n1,k1,b4',b5,b6]
  (repeat' (first|exact Zf.refl _ _|assumption|refine Zf.add ?_ _|refine Zf.Zj ?_ (by first|omega|(simp;omega)) _|refine Zf.trans (by assumption) ?_))
 ·have k1:=pn _ k0
  by_cases t0:(tc:Int)=c
  ·have t1:=pk _ t0
   by_cases a0:A=0
   ·have z1:=n2.1 a0
    rw[if_pos (.inl z1)]
    have a1:=pk _ a0
    simp -implicitDefEqProofs only[go_sem,↓reduceIte,n1,n3,k1,t1,a1,b4',b5,b6]
    (repeat' (first|exact Zf.refl _ _|assumption|refine Zf.add ?_ _|refine Zf.Zj ?_ (by first|omega|(simp;omega)) _|refine Zf.trans (by assumption) ?_))
   ·have z1:Zju k tr:=Decidable.not_not.1 (fun hn=>a0 (n2.2 hn))
    have a1:=pn _ a0
    rw[if_neg (by simp only[not_or,Decidable.not_not,ne_eq];exact⟨z1,t0⟩)]
    by_cases o1:now<0
    ·rw[if_pos (.inl o1)]
     simp -implicitDefEqProofs only[go_sem,↓reduceIte,n1,n3,k1,t1,a1,b4',b5,b6,o1]
     (repeat' (first|exact Zf.refl _ _|assumption|refine Zf.add ?_ _|refine Zf.Zj ?_ (by first|omega|(simp;omega)) _|refine Zf.trans (by assumption) ?_))
    ·by_cases o2:(tu:Int)<now
     ·rw[if_pos (.inr o2)]
      simp -implicitDefEqProofs only[go_sem,↓reduceIte,n1,n3,k1,t1,a1,b4',b5,b6,o1,o2]
      (repeat' (first|exact Zf.refl _ _|assumption|refine Zf.add ?_ _|refine Zf.Zj ?_ (by first|omega|(simp;omega)) _|refine Zf.trans (by assumption) ?_))
     ·rw[if_neg (by omega)]
      simp -implicitDefEqProofs only[go_sem,↓reduceIte,n1,n3,k1,t1,a1,b4',b5,b6,o1,o2]
      (repeat' (first|exact Zf.refl _ _|assumption|refine Zf.add ?_ _|refine Zf.Zj ?_ (by first|omega|(simp;omega)) _|refine Zf.trans (by assumption) ?_))
  ·have t1:=pn _ t0
   rw[if_pos (.inr t0)]
   simp -implicitDefEqProofs only[go_sem,↓reduceIte,n1,k1,t1,b4',b5,b6]
   (repeat' (first|exact Zf.refl _ _|assumption|refine Zf.add ?_ _|refine Zf.Zj ?_ (by first|omega|(simp;omega)) _|refine Zf.trans (by assumption) ?_))
theorem Zw9:Tryz.prog.globalNamed "conclave/order.need" = some 0:=by kernel_rfl
theorem Zyk:(Tryz.prog.globals[0]?).map (·.type)=some 173:=by kernel_rfl
theorem Zta:(Rows.laid_conclave_order_need:DataW Unit)=Lib.tabData .i64 (ZbH.map fun n:Nat=>(n:Int)):=by kernel_rfl
theorem ZvN {W:World} (h:laidMetH Tryz.prog [("conclave/order.need", Rows.laid_conclave_order_need)] W):Tab 0 niv ZbH W.heap:=by
 rw[Zta]at h
 exact Zsn Zw9 (Lib.tabIs_of_head (rest:=[]) Zw9 Zyk Tryz.underlying173 Tryz.underlying3 (by kernel_rfl) (by kernel_rfl) h) (by decide)
end Go.Proofs.YtnhbpmoeaodmnaaGreatDoor
