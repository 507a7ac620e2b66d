/- Part Tab. -/
import Derived.Test.YtnhfdnlcpdbjlaaGreatDoorW16
import Derived.Test.YtnhfdnlcpdbjlaaGreatDoorLchks
import Derived.ProofKit
import Derived.Test.YtnhfdnlcpdbjlaaGreatDoorVst
open Go.IntKind renaming i64→a
open Go.Proofs.Tryz renaming prog→d
open Decidable renaming not_not→i
namespace Go.Proofs.YtnhfdnlcpdbjlaaGreatDoor
open Go Go.V
set_option linter.all false
set_option maxRecDepth 100000
theorem Zk6:Tryz.prog.globalNamed "conclave/sha.numbers" = some 1:=sV
theorem Zk7:(Tryz.prog.globals[1]?).map (·.type)=some 215:=sV
theorem Zcx:(Rows.laid_conclave_sha_numbers:DataW Unit)=Lib.tabData .u32 (kN.map fun n:Nat=>(n:Int)):=sV
theorem ZgC{W:World}(h:laidMetH d [("conclave/sha.numbers", Rows.laid_conclave_sha_numbers)] W):BE 1 wv kN W.heap:=by
 rw[Zcx]at h;exact vH Zk6 (Lib.tabIs_of_head (rest:=[]) Zk6 Zk7 Tryz.underlying215 Tryz.underlying187 sV sV h) KC
theorem iA(os:Os)(args:Array Value):((World.doorLaid d 87 os).forCall (fun _ _=>0) ⟨#[],args,[]⟩).Shaped d:=World.shaped_of_RefB sV sV
def Es(k r:Nat):Prop:=(k=1/\r/2%2=1)\/(k=2/\r%2=1)\/(k=3/\r/4=1)
instance (k r:Nat):Decidable (Es k r):=by unfold Es;infer_instance
def Pf(tc tr tu k c s n v now:Int):Int:=
 if JW tc tr tu≠0 then JW tc tr tu else
 if XB k c s n v≠0 then XB k c s n v else
 if ¬Es k.toNat tr.toNat\/tc≠c then 11 else
 if now<0\/tu<now then 10 else 0
def Pg:List Nat:=[0,2,1,4]
def niv(x:Nat):Value:=.int a (x:Nat)
theorem xI{k r:Nat}(hk:k<4)(hr:r<8):YL .and a (r:Nat) (Pg.getD k 0:Nat)=0↔¬Es k r:=by
 rw[ZbS _ _ mD (by rcases k with _|_|_|_|k<;>first|decide|omega)];have all:∀k,k<4->∀r,r<8->(r &&& Pg.getD k 0=0↔¬Es k r):=KC;have:=all k hk r hr;exact⟨fun h=>this.1 mD,fun h=>by have:=this.2 h;omega⟩
theorem aG{c r u:Int}(h:JW c r u=0):∃c' r' u':Nat,c=c'/\r=r'/\u=u'/\c'<8/\r'<8/\u'<=1048576:=by
 unfold JW at h;split at h
 .cases h
 .exact⟨c.toNat,r.toNat,u.toNat,mD,mD,mD,mD,mD,mD⟩
theorem aH{k c s n v:Int}(h:XB k c s n v=0):∃k':Nat,k=k'/\k'<4:=by
 unfold XB at h;split at h
 .cases h
 .exact⟨k.toNat,mD,mD⟩
theorem pB(T:World)(h:Hp)(tc tr tu k c s n v now:Int)(tn:BE 0 niv Pg h):
  Zg d T 64 #[.agg (Rx tc tr tu).toArray,.agg (UL k c s n v).toArray,.int a now] h fun v' h'=>v'=.int a (Pf tc tr tu k c s n v now)/\Zk h.size h h':=by
 refine Zg.XK [_,_,_] Tryz.func64 ?_;unfold Rx UL;have hb:(0:Nat)<h.size:=tn.1;simp +contextual only[go_sem];refine (Gb T _ tc tr tu).use ?_;rintro _ _ ⟨rfl,rfl⟩;unfold Rx;by_cases q1:JW tc tr tu=0
 case neg=>
  have e:Pf tc tr tu k c s n v now=JW tc tr tu:=by unfold Pf;rw[if_pos q1]
  rw[e];simp +contextual only[go_sem,q1]
  (repeat' (first|exact Zk.refl _ _|assumption|refine Zk.add ?_ _|refine Zk.Zu ?_ IX _|refine Zk.trans KO ?_))
 obtain⟨tc,tr,tu,rfl,rfl,rfl,b1,b2,b3⟩:=aG q1;simp +contextual only[go_sem,q1];refine (Uk T _ k c s n v).use ?_;rintro _ _ ⟨rfl,rfl⟩;unfold UL;by_cases q2:XB k c s n v=0
 case neg=>
  have e:Pf tc tr tu k c s n v now=XB k c s n v:=by unfold Pf;rw[if_neg mD,if_pos q2]
  rw[e];simp +contextual only[go_sem,q2]
  (repeat' (first|exact Zk.refl _ _|assumption|refine Zk.add ?_ _|refine Zk.Zu ?_ IX _|refine Zk.trans KO ?_))
 obtain⟨k,rfl,b4⟩:=aH q2;have n1:hc h ⟨0,k,none⟩=some (.int a (Pg.getD k 0:Nat)):=tn.2 k b4;have n2:=xI b4 b2;have gQ:(k:Int)<4:=mD;have b5:0<=(k:Int):=mD;have b6:(k:Int).toNat=k:=mD;obtain⟨A,hA⟩:=ZP (YL .and a (tr:Nat) (Pg.getD k 0:Nat));rw[<-hA]at n2;have n3:YL .and a (tr:Nat) (Pg.getD k 0:Nat)=A:=hA.symm;generalize Pg.getD k 0=N at *;clear hA;have e:Pf tc tr tu k c s n v now=if ¬Es k tr\/(tc:Int)≠c then 11 else if now<0\/(tu:Int)<now then 10 else 0:=by
  unfold Pf;rw[if_neg mD,if_neg mD];rfl
 rw[e];clear e;have pk:∀(p:Prop),p->p=True:=fun p hp=>eq_true hp;have pn:∀(p:Prop),¬p->p=False:=fun p hp=>eq_false hp;rw[q2];by_cases k0:(k:Int)=0
 .have z1:¬Es k tr:=by unfold Es;omega
  have k1:=pk _ k0;rw[if_pos (.inl z1)];simp only[go_sem,n1,k1,gQ,b5,b6]
  (repeat' (first|exact Zk.refl _ _|assumption|refine Zk.add ?_ _|refine Zk.Zu ?_ IX _|refine Zk.trans KO ?_))
 .have k1:=pn _ k0;by_cases t0:(tc:Int)=c
  .have t1:=pk _ t0;by_cases a0:A=0
   .have z1:=n2.1 a0;rw[if_pos (.inl z1)];have a1:=pk _ a0;simp only[go_sem,n1,n3,k1,t1,a1,gQ,b5,b6]
    (repeat' (first|exact Zk.refl _ _|assumption|refine Zk.add ?_ _|refine Zk.Zu ?_ IX _|refine Zk.trans KO ?_))
   .have z1:Es k tr:=i.1 (fun hn=>a0 (n2.2 hn));have a1:=pn _ a0;rw[if_neg (by simp only[not_or,i,ne_eq];exact⟨z1,t0⟩)];by_cases o1:now<0
    .rw[if_pos (.inl o1)];simp only[go_sem,n1,n3,k1,t1,a1,gQ,b5,b6,o1]
     (repeat' (first|exact Zk.refl _ _|assumption|refine Zk.add ?_ _|refine Zk.Zu ?_ IX _|refine Zk.trans KO ?_))
    .by_cases o2:(tu:Int)<now
     .rw[if_pos (.inr o2)];simp only[go_sem,n1,n3,k1,t1,a1,gQ,b5,b6,o1,o2]
      (repeat' (first|exact Zk.refl _ _|assumption|refine Zk.add ?_ _|refine Zk.Zu ?_ IX _|refine Zk.trans KO ?_))
     .rw[if_neg mD];simp only[go_sem,n1,n3,k1,t1,a1,gQ,b5,b6,o1,o2]
      (repeat' (first|exact Zk.refl _ _|assumption|refine Zk.add ?_ _|refine Zk.Zu ?_ IX _|refine Zk.trans KO ?_))
  .have t1:=pn _ t0;rw[if_pos (.inr t0)];simp only[go_sem,n1,k1,t1,gQ,b5,b6]
   (repeat' (first|exact Zk.refl _ _|assumption|refine Zk.add ?_ _|refine Zk.Zu ?_ IX _|refine Zk.trans KO ?_))
theorem ZeP:Tryz.prog.globalNamed "conclave/order.need" = some 0:=sV
theorem ZgD:(Tryz.prog.globals[0]?).map (·.type)=some 173:=sV
theorem xK:(Rows.laid_conclave_order_need:DataW Unit)=Lib.tabData a (Pg.map fun n:Nat=>(n:Int)):=sV
theorem Zcy{W:World}(h:laidMetH d [("conclave/order.need", Rows.laid_conclave_order_need)] W):BE 0 niv Pg W.heap:=by
 rw[xK]at h;exact vH ZeP (Lib.tabIs_of_head (rest:=[]) ZeP ZgD Tryz.underlying173 Tryz.underlying3 sV sV h) KC
end Go.Proofs.YtnhfdnlcpdbjlaaGreatDoor
