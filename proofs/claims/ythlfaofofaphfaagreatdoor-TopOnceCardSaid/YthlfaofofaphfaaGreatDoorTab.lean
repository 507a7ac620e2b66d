/- Part Tab. -/
import Derived.Test.YthlfaofofaphfaaGreatDoorW16
import Derived.Test.YthlfaofofaphfaaGreatDoorLchks
import Derived.ProofKit
import Derived.Test.YthlfaofofaphfaaGreatDoorVst
open Go.IntKind renaming i64→a
open Go.Proofs.Tryz renaming prog→d
open Decidable renaming not_not→i
namespace Go.Proofs.YthlfaofofaphfaaGreatDoor
open Go Go.V
set_option linter.unusedSimpArgs false
set_option linter.unusedVariables false
set_option maxRecDepth 100000
theorem Zmu:Tryz.prog.globalNamed "conclave/sha.numbers" = some 0:=vM
theorem Zmv:(Tryz.prog.globals[0]?).map (·.type)=some 187:=vM
theorem ZdB:(Rows.laid_conclave_sha_numbers:DataW Unit)=Lib.tabData .u32 (kN.map fun n:Nat=>(n:Int)):=vM
theorem ZhB{W:World}(h:laidMetH d [("conclave/sha.numbers", Rows.laid_conclave_sha_numbers)] W):AP 0 wv kN W.heap:=by
 rw[ZdB]at h;exact yj Zmu (Lib.tabIs_of_head (rest:=[]) Zmu Zmv Tryz.underlying187 Tryz.underlying146 vM vM h) aaa
theorem FA(os:Os)(args:Array Value):((World.doorLaid d 87 os).forCall (fun _ _=>0) ⟨#[],args,[]⟩).Shaped d:=World.shaped_of_RefB vM vM
def KU(k r:Nat):Prop:=(k=1/\r/2%2=1)\/(k=2/\r%2=1)\/(k=3/\r/4=1)
instance (k r:Nat):Decidable (KU k r):=by unfold KU;infer_instance
def Rv(tc tr tu k c s n v now:Int):Int:=
 if JP tc tr tu≠0 then JP tc tr tu else
 if YC k c s n v≠0 then YC k c s n v else
 if ¬KU k.toNat tr.toNat\/tc≠c then 11 else
 if now<0\/tu<now then 10 else 0
def PP:List Nat:=[0,2,1,4]
def niv(x:Nat):Value:=.int a (x:Nat)
theorem zL{k r:Nat}(hk:k<4)(hr:r<8):YO .and a (r:Nat) (PP.getD k 0:Nat)=0↔¬KU k r:=by
 rw[ZcZ _ _ pA (by rcases k with _|_|_|_|k<;>first|decide|omega)];have all:∀k,k<4->∀r,r<8->(r &&& PP.getD k 0=0↔¬KU k r):=aaa;have:=all k hk r hr;exact⟨fun h=>this.1 pA,fun h=>by have:=this.2 h;omega⟩
theorem cL{c r u:Int}(h:JP c r u=0):∃c' r' u':Nat,c=c'/\r=r'/\u=u'/\c'<8/\r'<8/\u'<=1048576:=by
 unfold JP at h;split at h
 .cases h
 .exact⟨c.toNat,r.toNat,u.toNat,pA,pA,pA,pA,pA,pA⟩
theorem cM{k c s n v:Int}(h:YC k c s n v=0):∃k':Nat,k=k'/\k'<4:=by
 unfold YC at h;split at h
 .cases h
 .exact⟨k.toNat,pA,pA⟩
theorem rS(T:World)(h:Hp)(tc tr tu k c s n v now:Int)(tn:AP 1 niv PP h):
  Zd d T 84 #[.agg (PS tc tr tu).toArray,.agg (Ua k c s n v).toArray,.int a now] h fun v' h'=>v'=.int a (Rv tc tr tu k c s n v now)/\Zj h.size h h':=by
 refine Zd.XS [_,_,_] Tryz.func84 ?_;unfold PS Ua;have hb:(1:Nat)<h.size:=tn.1;simp +contextual -implicitDefEqProofs only[go_sem];refine (G9 T _ tc tr tu).use ?_;rintro _ _ ⟨rfl,rfl⟩;unfold PS;by_cases q1:JP tc tr tu=0
 case neg=>
  have e:Rv tc tr tu k c s n v now=JP tc tr tu:=by unfold Rv;rw[if_pos q1]
  rw[e];simp +contextual -implicitDefEqProofs only[go_sem,q1]
  (repeat' (first|exact Zj.refl _ _|assumption|refine Zj.add ?_ _|refine Zj.Zt ?_ aab _|refine Zj.trans aac ?_))
 obtain⟨tc,tr,tu,rfl,rfl,rfl,b1,b2,b3⟩:=cL q1;simp +contextual -implicitDefEqProofs only[go_sem,q1];refine (UG T _ k c s n v).use ?_;rintro _ _ ⟨rfl,rfl⟩;unfold Ua;by_cases q2:YC k c s n v=0
 case neg=>
  have e:Rv tc tr tu k c s n v now=YC k c s n v:=by unfold Rv;rw[if_neg pA,if_pos q2]
  rw[e];simp +contextual -implicitDefEqProofs only[go_sem,q2]
  (repeat' (first|exact Zj.refl _ _|assumption|refine Zj.add ?_ _|refine Zj.Zt ?_ aab _|refine Zj.trans aac ?_))
 obtain⟨k,rfl,b4⟩:=cM q2;have n1:hc h ⟨1,k,none⟩=some (.int a (PP.getD k 0:Nat)):=tn.2 k b4;have n2:=zL b4 b2;have jj:(k:Int)<4:=pA;have b5:0<=(k:Int):=pA;have b6:(k:Int).toNat=k:=pA;obtain⟨A,hA⟩:=ZL (YO .and a (tr:Nat) (PP.getD k 0:Nat));rw[<-hA]at n2;have n3:YO .and a (tr:Nat) (PP.getD k 0:Nat)=A:=hA.symm;generalize PP.getD k 0=N at *;clear hA;have e:Rv tc tr tu k c s n v now=if ¬KU k tr\/(tc:Int)≠c then 11 else if now<0\/(tu:Int)<now then 10 else 0:=by
  unfold Rv;rw[if_neg pA,if_neg pA];rfl
 rw[e];clear e;have pk:∀(p:Prop),p->p=True:=fun p hp=>eq_true hp;have pn:∀(p:Prop),¬p->p=False:=fun p hp=>eq_false hp;rw[q2];by_cases k0:(k:Int)=0
 .have z1:¬KU k tr:=by unfold KU;omega
  have k1:=pk _ k0;rw[if_pos (.inl z1)];simp -implicitDefEqProofs only[go_sem,n1,k1,jj,b5,b6]
  (repeat' (first|exact Zj.refl _ _|assumption|refine Zj.add ?_ _|refine Zj.Zt ?_ aab _|refine Zj.trans aac ?_))
 .have k1:=pn _ k0;by_cases t0:(tc:Int)=c
  .have t1:=pk _ t0;by_cases a0:A=0
   .have z1:=n2.1 a0;rw[if_pos (.inl z1)];have a1:=pk _ a0;simp -implicitDefEqProofs only[go_sem,n1,n3,k1,t1,a1,jj,b5,b6]
    (repeat' (first|exact Zj.refl _ _|assumption|refine Zj.add ?_ _|refine Zj.Zt ?_ aab _|refine Zj.trans aac ?_))
   .have z1:KU k tr:=i.1 (fun hn=>a0 (n2.2 hn));have a1:=pn _ a0;rw[if_neg (by simp only[not_or,i,ne_eq];exact⟨z1,t0⟩)];by_cases o1:now<0
    .rw[if_pos (.inl o1)];simp -implicitDefEqProofs only[go_sem,n1,n3,k1,t1,a1,jj,b5,b6,o1]
     (repeat' (first|exact Zj.refl _ _|assumption|refine Zj.add ?_ _|refine Zj.Zt ?_ aab _|refine Zj.trans aac ?_))
    .by_cases o2:(tu:Int)<now
     .rw[if_pos (.inr o2)];simp -implicitDefEqProofs only[go_sem,n1,n3,k1,t1,a1,jj,b5,b6,o1,o2]
      (repeat' (first|exact Zj.refl _ _|assumption|refine Zj.add ?_ _|refine Zj.Zt ?_ aab _|refine Zj.trans aac ?_))
     .rw[if_neg pA];simp -implicitDefEqProofs only[go_sem,n1,n3,k1,t1,a1,jj,b5,b6,o1,o2]
      (repeat' (first|exact Zj.refl _ _|assumption|refine Zj.add ?_ _|refine Zj.Zt ?_ aab _|refine Zj.trans aac ?_))
  .have t1:=pn _ t0;rw[if_pos (.inr t0)];simp -implicitDefEqProofs only[go_sem,n1,k1,t1,jj,b5,b6]
   (repeat' (first|exact Zj.refl _ _|assumption|refine Zj.add ?_ _|refine Zj.Zt ?_ aab _|refine Zj.trans aac ?_))
theorem ZfL:Tryz.prog.globalNamed "conclave/order.need" = some 1:=vM
theorem ZhC:(Tryz.prog.globals[1]?).map (·.type)=some 190:=vM
theorem zM:(Rows.laid_conclave_order_need:DataW Unit)=Lib.tabData a (PP.map fun n:Nat=>(n:Int)):=vM
theorem ZdC{W:World}(h:laidMetH d [("conclave/order.need", Rows.laid_conclave_order_need)] W):AP 1 niv PP W.heap:=by
 rw[zM]at h;exact yj ZfL (Lib.tabIs_of_head (rest:=[]) ZfL ZhC Tryz.underlying190 Tryz.underlying3 vM vM h) aaa
end Go.Proofs.YthlfaofofaphfaaGreatDoor
