/- Part Tab. -/
import Derived.Test.YtdapjaalaomghaaGreatDoorW16
import Derived.Test.YtdapjaalaomghaaGreatDoorLchks
import Derived.ProofKit
import Derived.Test.YtdapjaalaomghaaGreatDoorVst
open Go.IntKind renaming i64→a
open Go.Proofs.Tryz renaming prog→d
open Decidable renaming not_not→i
namespace Go.Proofs.YtdapjaalaomghaaGreatDoor
open Go Go.V
set_option linter.all false
set_option maxRecDepth 100000
theorem Zl7:Tryz.prog.globalNamed "conclave/sha.numbers" = some 0:=uj
theorem Zl8:(Tryz.prog.globals[0]?).map (·.type)=some 185:=uj
theorem Zc7:(Rows.laid_conclave_sha_numbers:DataW Unit)=Lib.tabData .u32 (kN.map fun n:Nat=>(n:Int)):=uj
theorem Zhe{W:World}(h:laidMetH d [("conclave/sha.numbers", Rows.laid_conclave_sha_numbers)] W):Aw 0 wv kN W.heap:=by
 rw[Zc7]at h;exact wX Zl7 (Lib.tabIs_of_head (rest:=[]) Zl7 Zl8 Tryz.underlying185 Tryz.underlying145 uj uj h) Iw
theorem jh(os:Os)(args:Array Value):((World.doorLaid d 87 os).forCall (fun _ _=>0) ⟨#[],args,[]⟩).Shaped d:=World.shaped_of_RefB uj uj
def KA(k r:Nat):Prop:=(k=1/\r/2%2=1)\/(k=2/\r%2=1)\/(k=3/\r/4=1)
instance (k r:Nat):Decidable (KA k r):=by unfold KA;infer_instance
def Rq(tc tr tu k c s n v now:Int):Int:=
 if JM tc tr tu≠0 then JM tc tr tu else
 if Y0 k c s n v≠0 then Y0 k c s n v else
 if ¬KA k.toNat tr.toNat\/tc≠c then 11 else
 if now<0\/tu<now then 10 else 0
def PG:List Nat:=[0,2,1,4]
def niv(x:Nat):Value:=.int a (x:Nat)
theorem yI{k r:Nat}(hk:k<4)(hr:r<8):YN .and a (r:Nat) (PG.getD k 0:Nat)=0↔¬KA k r:=by
 rw[Zcx _ _ nT (by rcases k with _|_|_|_|k<;>first|decide|omega)];have all:∀k,k<4->∀r,r<8->(r &&& PG.getD k 0=0↔¬KA k r):=Iw;have:=all k hk r hr;exact⟨fun h=>this.1 nT,fun h=>by have:=this.2 h;omega⟩
theorem bM{c r u:Int}(h:JM c r u=0):∃c' r' u':Nat,c=c'/\r=r'/\u=u'/\c'<8/\r'<8/\u'<=1048576:=by
 unfold JM at h;split at h
 .cases h
 .exact⟨c.toNat,r.toNat,u.toNat,nT,nT,nT,nT,nT,nT⟩
theorem bN{k c s n v:Int}(h:Y0 k c s n v=0):∃k':Nat,k=k'/\k'<4:=by
 unfold Y0 at h;split at h
 .cases h
 .exact⟨k.toNat,nT,nT⟩
theorem qC(T:World)(h:Hp)(tc tr tu k c s n v now:Int)(tn:Aw 1 niv PG h):
  Zd d T 82 #[.agg (PO tc tr tu).toArray,.agg (Uy k c s n v).toArray,.int a now] h fun v' h'=>v'=.int a (Rq tc tr tu k c s n v now)/\Zj h.size h h':=by
 refine Zd.XT [_,_,_] Tryz.func82 ?_;unfold PO Uy;have hb:(1:Nat)<h.size:=tn.1;simp +contextual only[go_sem];refine (GM T _ tc tr tu).use ?_;rintro _ _ ⟨rfl,rfl⟩;unfold PO;by_cases q1:JM tc tr tu=0
 case neg=>
  have e:Rq tc tr tu k c s n v now=JM tc tr tu:=by unfold Rq;rw[if_pos q1]
  rw[e];simp +contextual only[go_sem,q1]
  (repeat' (first|exact Zj.refl _ _|assumption|refine Zj.add ?_ _|refine Zj.Zs ?_ aaa _|refine Zj.trans aab ?_))
 obtain⟨tc,tr,tu,rfl,rfl,rfl,b1,b2,b3⟩:=bM q1;simp +contextual only[go_sem,q1];refine (Uz T _ k c s n v).use ?_;rintro _ _ ⟨rfl,rfl⟩;unfold Uy;by_cases q2:Y0 k c s n v=0
 case neg=>
  have e:Rq tc tr tu k c s n v now=Y0 k c s n v:=by unfold Rq;rw[if_neg nT,if_pos q2]
  rw[e];simp +contextual only[go_sem,q2]
  (repeat' (first|exact Zj.refl _ _|assumption|refine Zj.add ?_ _|refine Zj.Zs ?_ aaa _|refine Zj.trans aab ?_))
 obtain⟨k,rfl,b4⟩:=bN q2;have n1:hc h ⟨1,k,none⟩=some (.int a (PG.getD k 0:Nat)):=tn.2 k b4;have n2:=yI b4 b2;have iL:(k:Int)<4:=nT;have b5:0<=(k:Int):=nT;have b6:(k:Int).toNat=k:=nT;obtain⟨A,hA⟩:=ZN (YN .and a (tr:Nat) (PG.getD k 0:Nat));rw[<-hA]at n2;have n3:YN .and a (tr:Nat) (PG.getD k 0:Nat)=A:=hA.symm;generalize PG.getD k 0=N at *;clear hA;have e:Rq tc tr tu k c s n v now=if ¬KA k tr\/(tc:Int)≠c then 11 else if now<0\/(tu:Int)<now then 10 else 0:=by
  unfold Rq;rw[if_neg nT,if_neg nT];rfl
 rw[e];clear e;have pk:∀(p:Prop),p->p=True:=fun p hp=>eq_true hp;have pn:∀(p:Prop),¬p->p=False:=fun p hp=>eq_false hp;rw[q2];by_cases k0:(k:Int)=0
 .have z1:¬KA k tr:=by unfold KA;omega
  have k1:=pk _ k0;rw[if_pos (.inl z1)];simp only[go_sem,n1,k1,iL,b5,b6]
  (repeat' (first|exact Zj.refl _ _|assumption|refine Zj.add ?_ _|refine Zj.Zs ?_ aaa _|refine Zj.trans aab ?_))
 .have k1:=pn _ k0;by_cases t0:(tc:Int)=c
  .have t1:=pk _ t0;by_cases a0:A=0
   .have z1:=n2.1 a0;rw[if_pos (.inl z1)];have a1:=pk _ a0;simp only[go_sem,n1,n3,k1,t1,a1,iL,b5,b6]
    (repeat' (first|exact Zj.refl _ _|assumption|refine Zj.add ?_ _|refine Zj.Zs ?_ aaa _|refine Zj.trans aab ?_))
   .have z1:KA k tr:=i.1 (fun hn=>a0 (n2.2 hn));have a1:=pn _ a0;rw[if_neg (by simp only[not_or,i,ne_eq];exact⟨z1,t0⟩)];by_cases o1:now<0
    .rw[if_pos (.inl o1)];simp only[go_sem,n1,n3,k1,t1,a1,iL,b5,b6,o1]
     (repeat' (first|exact Zj.refl _ _|assumption|refine Zj.add ?_ _|refine Zj.Zs ?_ aaa _|refine Zj.trans aab ?_))
    .by_cases o2:(tu:Int)<now
     .rw[if_pos (.inr o2)];simp only[go_sem,n1,n3,k1,t1,a1,iL,b5,b6,o1,o2]
      (repeat' (first|exact Zj.refl _ _|assumption|refine Zj.add ?_ _|refine Zj.Zs ?_ aaa _|refine Zj.trans aab ?_))
     .rw[if_neg nT];simp only[go_sem,n1,n3,k1,t1,a1,iL,b5,b6,o1,o2]
      (repeat' (first|exact Zj.refl _ _|assumption|refine Zj.add ?_ _|refine Zj.Zs ?_ aaa _|refine Zj.trans aab ?_))
  .have t1:=pn _ t0;rw[if_pos (.inr t0)];simp only[go_sem,n1,k1,t1,iL,b5,b6]
   (repeat' (first|exact Zj.refl _ _|assumption|refine Zj.add ?_ _|refine Zj.Zs ?_ aaa _|refine Zj.trans aab ?_))
theorem Zfn:Tryz.prog.globalNamed "conclave/order.need" = some 1:=uj
theorem Zhf:(Tryz.prog.globals[1]?).map (·.type)=some 188:=uj
theorem yJ:(Rows.laid_conclave_order_need:DataW Unit)=Lib.tabData a (PG.map fun n:Nat=>(n:Int)):=uj
theorem Zc8{W:World}(h:laidMetH d [("conclave/order.need", Rows.laid_conclave_order_need)] W):Aw 1 niv PG W.heap:=by
 rw[yJ]at h;exact wX Zfn (Lib.tabIs_of_head (rest:=[]) Zfn Zhf Tryz.underlying188 Tryz.underlying3 uj uj h) Iw
end Go.Proofs.YtdapjaalaomghaaGreatDoor
