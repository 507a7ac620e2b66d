/- Part Tab. -/
import Derived.Test.YthlfaofofaphfaaGreatDoorW16
import Derived.Test.YthlfaofofaphfaaGreatDoorLchks
import Derived.ProofKit
import Derived.Test.YthlfaofofaphfaaGreatDoorVst
open Go.IntKind renaming i64→a
open Go.Proofs.Tryz renaming prog→d
open Decidable renaming not_not→i
namespace Go.Proofs.YthlfaofofaphfaaGreatDoor
open Go Go.V
set_option linter.unusedSimpArgs false
set_option linter.unusedVariables false
set_option maxRecDepth 100000
theorem Zlj:Tryz.prog.globalNamed "conclave/sha.numbers" = some 0:=uf
theorem Zlk:(Tryz.prog.globals[0]?).map (·.type)=some 187:=uf
theorem Zcw:(Rows.laid_conclave_sha_numbers:DataW Unit)=Lib.tabData .u32 (kN.map fun n:Nat=>(n:Int)):=uf
theorem Zgy{W:World}(h:laidMetH d [("conclave/sha.numbers", Rows.laid_conclave_sha_numbers)] W):BX 0 wv kN W.heap:=by
 rw[Zcw]at h;exact vU Zlj (Lib.tabIs_of_head (rest:=[]) Zlj Zlk Tryz.underlying187 Tryz.underlying146 uf uf h) aaa
theorem iC(os:Os)(args:Array Value):((World.doorLaid d 87 os).forCall (fun _ _=>0) ⟨#[],args,[]⟩).Shaped d:=World.shaped_of_RefB uf uf
def Kk(k r:Nat):Prop:=(k=1/\r/2%2=1)\/(k=2/\r%2=1)\/(k=3/\r/4=1)
instance (k r:Nat):Decidable (Kk k r):=by unfold Kk;infer_instance
def S7(tc tr tu k c s n v now:Int):Int:=
 if JG tc tr tu≠0 then JG tc tr tu else
 if YE k c s n v≠0 then YE k c s n v else
 if ¬Kk k.toNat tr.toNat\/tc≠c then 11 else
 if now<0\/tu<now then 10 else 0
def Pf:List Nat:=[0,2,1,4]
def niv(x:Nat):Value:=.int a (x:Nat)
theorem xY{k r:Nat}(hk:k<4)(hr:r<8):YM .and a (r:Nat) (Pf.getD k 0:Nat)=0↔¬Kk k r:=by
 rw[ZbW _ _ nc (by rcases k with _|_|_|_|k<;>first|decide|omega)];have all:∀k,k<4->∀r,r<8->(r &&& Pf.getD k 0=0↔¬Kk k r):=aaa;have:=all k hk r hr;exact⟨fun h=>this.1 nc,fun h=>by have:=this.2 h;omega⟩
theorem aR{c r u:Int}(h:JG c r u=0):∃c' r' u':Nat,c=c'/\r=r'/\u=u'/\c'<8/\r'<8/\u'<=1048576:=by
 unfold JG at h;split at h
 .cases h
 .exact⟨c.toNat,r.toNat,u.toNat,nc,nc,nc,nc,nc,nc⟩
theorem aS{k c s n v:Int}(h:YE k c s n v=0):∃k':Nat,k=k'/\k'<4:=by
 unfold YE at h;split at h
 .cases h
 .exact⟨k.toNat,nc,nc⟩
theorem pZ(T:World)(h:Hp)(tc tr tu k c s n v now:Int)(tn:BX 1 niv Pf h):
  Zd d T 84 #[.agg (Pj tc tr tu).toArray,.agg (QW k c s n v).toArray,.int a now] h fun v' h'=>v'=.int a (S7 tc tr tu k c s n v now)/\Zk h.size h h':=by
 refine Zd.XS [_,_,_] Tryz.func84 ?_;unfold Pj QW;have hb:(1:Nat)<h.size:=tn.1;simp +contextual -implicitDefEqProofs only[go_sem];refine (Gu T _ tc tr tu).use ?_;rintro _ _ ⟨rfl,rfl⟩;unfold Pj;by_cases q1:JG tc tr tu=0
 case neg=>
  have e:S7 tc tr tu k c s n v now=JG tc tr tu:=by unfold S7;rw[if_pos q1]
  rw[e];simp +contextual -implicitDefEqProofs only[go_sem,q1]
  (repeat' (first|exact Zk.refl _ _|assumption|refine Zk.add ?_ _|refine Zk.Zt ?_ aab _|refine Zk.trans aac ?_))
 obtain⟨tc,tr,tu,rfl,rfl,rfl,b1,b2,b3⟩:=aR q1;simp +contextual -implicitDefEqProofs only[go_sem,q1];refine (Uv T _ k c s n v).use ?_;rintro _ _ ⟨rfl,rfl⟩;unfold QW;by_cases q2:YE k c s n v=0
 case neg=>
  have e:S7 tc tr tu k c s n v now=YE k c s n v:=by unfold S7;rw[if_neg nc,if_pos q2]
  rw[e];simp +contextual -implicitDefEqProofs only[go_sem,q2]
  (repeat' (first|exact Zk.refl _ _|assumption|refine Zk.add ?_ _|refine Zk.Zt ?_ aab _|refine Zk.trans aac ?_))
 obtain⟨k,rfl,b4⟩:=aS q2;have n1:hc h ⟨1,k,none⟩=some (.int a (Pf.getD k 0:Nat)):=tn.2 k b4;have n2:=xY b4 b2;have gW:(k:Int)<4:=nc;have b5:0<=(k:Int):=nc;have b6:(k:Int).toNat=k:=nc;obtain⟨A,hA⟩:=ZQ (YM .and a (tr:Nat) (Pf.getD k 0:Nat));rw[<-hA]at n2;have n3:YM .and a (tr:Nat) (Pf.getD k 0:Nat)=A:=hA.symm;generalize Pf.getD k 0=N at *;clear hA;have e:S7 tc tr tu k c s n v now=if ¬Kk k tr\/(tc:Int)≠c then 11 else if now<0\/(tu:Int)<now then 10 else 0:=by
  unfold S7;rw[if_neg nc,if_neg nc];rfl
 rw[e];clear e;have pk:∀(p:Prop),p->p=True:=fun p hp=>eq_true hp;have pn:∀(p:Prop),¬p->p=False:=fun p hp=>eq_false hp;rw[q2];by_cases k0:(k:Int)=0
 .have z1:¬Kk k tr:=by unfold Kk;omega
  have k1:=pk _ k0;rw[if_pos (.inl z1)];simp -implicitDefEqProofs only[go_sem,n1,k1,gW,b5,b6]
  (repeat' (first|exact Zk.refl _ _|assumption|refine Zk.add ?_ _|refine Zk.Zt ?_ aab _|refine Zk.trans aac ?_))
 .have k1:=pn _ k0;by_cases t0:(tc:Int)=c
  .have t1:=pk _ t0;by_cases a0:A=0
   .have z1:=n2.1 a0;rw[if_pos (.inl z1)];have a1:=pk _ a0;simp -implicitDefEqProofs only[go_sem,n1,n3,k1,t1,a1,gW,b5,b6]
    (repeat' (first|exact Zk.refl _ _|assumption|refine Zk.add ?_ _|refine Zk.Zt ?_ aab _|refine Zk.trans aac ?_))
   .have z1:Kk k tr:=i.1 (fun hn=>a0 (n2.2 hn));have a1:=pn _ a0;rw[if_neg (by simp only[not_or,i,ne_eq];exact⟨z1,t0⟩)];by_cases o1:now<0
    .rw[if_pos (.inl o1)];simp -implicitDefEqProofs only[go_sem,n1,n3,k1,t1,a1,gW,b5,b6,o1]
     (repeat' (first|exact Zk.refl _ _|assumption|refine Zk.add ?_ _|refine Zk.Zt ?_ aab _|refine Zk.trans aac ?_))
    .by_cases o2:(tu:Int)<now
     .rw[if_pos (.inr o2)];simp -implicitDefEqProofs only[go_sem,n1,n3,k1,t1,a1,gW,b5,b6,o1,o2]
      (repeat' (first|exact Zk.refl _ _|assumption|refine Zk.add ?_ _|refine Zk.Zt ?_ aab _|refine Zk.trans aac ?_))
     .rw[if_neg nc];simp -implicitDefEqProofs only[go_sem,n1,n3,k1,t1,a1,gW,b5,b6,o1,o2]
      (repeat' (first|exact Zk.refl _ _|assumption|refine Zk.add ?_ _|refine Zk.Zt ?_ aab _|refine Zk.trans aac ?_))
  .have t1:=pn _ t0;rw[if_pos (.inr t0)];simp -implicitDefEqProofs only[go_sem,n1,k1,t1,gW,b5,b6]
   (repeat' (first|exact Zk.refl _ _|assumption|refine Zk.add ?_ _|refine Zk.Zt ?_ aab _|refine Zk.trans aac ?_))
theorem ZeN:Tryz.prog.globalNamed "conclave/order.need" = some 1:=uf
theorem Zgz:(Tryz.prog.globals[1]?).map (·.type)=some 190:=uf
theorem ya:(Rows.laid_conclave_order_need:DataW Unit)=Lib.tabData a (Pf.map fun n:Nat=>(n:Int)):=uf
theorem Zcx{W:World}(h:laidMetH d [("conclave/order.need", Rows.laid_conclave_order_need)] W):BX 1 niv Pf W.heap:=by
 rw[ya]at h;exact vU ZeN (Lib.tabIs_of_head (rest:=[]) ZeN Zgz Tryz.underlying190 Tryz.underlying3 uf uf h) aaa
end Go.Proofs.YthlfaofofaphfaaGreatDoor
