/- Part Tab. -/
import Derived.Test.YtdpjmhgbmhjniaaGreatDoorW16
import Derived.Test.YtdpjmhgbmhjniaaGreatDoorShaq
import Derived.ProofKit
import Derived.Test.YtdpjmhgbmhjniaaGreatDoorVst
open Go.IntKind renaming i64→a
open Go.Proofs.Tryz renaming prog→i
open Decidable renaming not_not→d
namespace Go.Proofs.YtdpjmhgbmhjniaaGreatDoor
open Go Go.V
set_option linter.all false
set_option maxRecDepth 100000
theorem ZhV:Tryz.prog.globalNamed "conclave/sha.numbers" = some 2:=po
theorem ZhW:(Tryz.prog.globals[2]?).map (·.type)=some 236:=po
theorem yj:(Rows.laid_conclave_sha_numbers:DataW Unit)=Lib.tabData .u32 (kN.map fun n:Nat=>(n:Int)):=po
theorem Zdi{W:World}(h:laidMetH i [("conclave/sha.numbers", Rows.laid_conclave_sha_numbers)] W):Dl 2 wv kN W.heap:=by
 rw[yj]at h;exact pj ZhV (Lib.tabIs_of_head (rest:=[]) ZhV ZhW Tryz.underlying236 Tryz.underlying207 po po h) MZ
def EM(k r:Nat):Prop:=(k=1/\r/2%2=1)\/(k=2/\r%2=1)\/(k=3/\r/4=1)
instance (k r:Nat):Decidable (EM k r):=by unfold EM;infer_instance
def Nr(tc tr tu k c s n v now:Int):Int:=
 if Ju tc tr tu≠0 then Ju tc tr tu else
 if Y9 k c s n v≠0 then Y9 k c s n v else
 if ¬EM k.toNat tr.toNat\/tc≠c then 11 else
 if now<0\/tu<now then 10 else 0
def Sh:List Nat:=[0,2,1,4]
def niv(x:Nat):Value:=.int a (x:Nat)
theorem qJ{k r:Nat}(hk:k<4)(hr:r<8):Ym .and a (r:Nat) (Sh.getD k 0:Nat)=0↔¬EM k r:=by
 rw[wI _ _ gX (by rcases k with _|_|_|_|k<;>first|decide|omega)];have all:∀k,k<4->∀r,r<8->(r &&& Sh.getD k 0=0↔¬EM k r):=MZ;have:=all k hk r hr;exact⟨fun h=>this.1 gX,fun h=>by have:=this.2 h;omega⟩
theorem CY{c r u:Int}(h:Ju c r u=0):∃c' r' u':Nat,c=c'/\r=r'/\u=u'/\c'<8/\r'<8/\u'<=1048576:=by
 unfold Ju at h;split at h
 .cases h
 .exact⟨c.toNat,r.toNat,u.toNat,gX,gX,gX,gX,gX,gX⟩
theorem CZ{k c s n v:Int}(h:Y9 k c s n v=0):∃k':Nat,k=k'/\k'<4:=by
 unfold Y9 at h;split at h
 .cases h
 .exact⟨k.toNat,gX,gX⟩
theorem jU(T:World)(h:Hp)(tc tr tu k c s n v now:Int)(tn:Dl 0 niv Sh h):
  Zc i T 28 #[.agg (TQ tc tr tu).toArray,.agg (QR k c s n v).toArray,.int a now] h fun v' h'=>v'=.int a (Nr tc tr tu k c s n v now)/\Zf h.size h h':=by
 refine Zc.Y8 [_,_,_] Tryz.func28 ?_;unfold TQ QR;have hb:(0:Nat)<h.size:=tn.1;simp +contextual -implicitDefEqProofs only[go_sem];refine (Ik T _ tc tr tu).use ?_;rintro _ _ ⟨rfl,rfl⟩;unfold TQ;by_cases q1:Ju tc tr tu=0
 case neg=>
  have e:Nr tc tr tu k c s n v now=Ju tc tr tu:=by unfold Nr;rw[if_pos q1]
  rw[e];simp +contextual -implicitDefEqProofs only[go_sem,q1]
  (repeat' (first|exact Zf.refl _ _|assumption|refine Zf.add ?_ _|refine Zf.Zj ?_ aaa _|refine Zf.trans aab ?_))
 obtain⟨tc,tr,tu,rfl,rfl,rfl,b1,b2,b3⟩:=CY q1;simp +contextual -implicitDefEqProofs only[go_sem,q1];refine (Qt T _ k c s n v).use ?_;rintro _ _ ⟨rfl,rfl⟩;unfold QR;by_cases q2:Y9 k c s n v=0
 case neg=>
  have e:Nr tc tr tu k c s n v now=Y9 k c s n v:=by unfold Nr;rw[if_neg gX,if_pos q2]
  rw[e];simp +contextual -implicitDefEqProofs only[go_sem,q2]
  (repeat' (first|exact Zf.refl _ _|assumption|refine Zf.add ?_ _|refine Zf.Zj ?_ aaa _|refine Zf.trans aab ?_))
 obtain⟨k,rfl,b4⟩:=CZ q2;have n1:hc h ⟨0,k,none⟩=some (.int a (Sh.getD k 0:Nat)):=tn.2 k b4;have n2:=qJ b4 b2;have bL:(k:Int)<4:=gX;have b5:0<=(k:Int):=gX;have b6:(k:Int).toNat=k:=gX;obtain⟨A,hA⟩:=ZD (Ym .and a (tr:Nat) (Sh.getD k 0:Nat));rw[<-hA]at n2;have n3:Ym .and a (tr:Nat) (Sh.getD k 0:Nat)=A:=hA.symm;generalize Sh.getD k 0=N at *;clear hA;have e:Nr tc tr tu k c s n v now=if ¬EM k tr\/(tc:Int)≠c then 11 else if now<0\/(tu:Int)<now then 10 else 0:=by
  unfold Nr;rw[if_neg gX,if_neg gX];rfl
 rw[e];clear e;have pk:∀(p:Prop),p->p=True:=fun p hp=>eq_true hp;have pn:∀(p:Prop),¬p->p=False:=fun p hp=>eq_false hp;rw[q2];by_cases k0:(k:Int)=0
 .have z1:¬EM k tr:=by unfold EM;omega
  have k1:=pk _ k0;rw[if_pos (.inl z1)];simp -implicitDefEqProofs only[go_sem,n1,k1,bL,b5,b6]
  (repeat' (first|exact Zf.refl _ _|assumption|refine Zf.add ?_ _|refine Zf.Zj ?_ aaa _|refine Zf.trans aab ?_))
 .have k1:=pn _ k0;by_cases t0:(tc:Int)=c
  .have t1:=pk _ t0;by_cases a0:A=0
   .have z1:=n2.1 a0;rw[if_pos (.inl z1)];have a1:=pk _ a0;simp -implicitDefEqProofs only[go_sem,n1,n3,k1,t1,a1,bL,b5,b6]
    (repeat' (first|exact Zf.refl _ _|assumption|refine Zf.add ?_ _|refine Zf.Zj ?_ aaa _|refine Zf.trans aab ?_))
   .have z1:EM k tr:=d.1 (fun hn=>a0 (n2.2 hn));have a1:=pn _ a0;rw[if_neg (by simp only[not_or,d,ne_eq];exact⟨z1,t0⟩)];by_cases o1:now<0
    .rw[if_pos (.inl o1)];simp -implicitDefEqProofs only[go_sem,n1,n3,k1,t1,a1,bL,b5,b6,o1]
     (repeat' (first|exact Zf.refl _ _|assumption|refine Zf.add ?_ _|refine Zf.Zj ?_ aaa _|refine Zf.trans aab ?_))
    .by_cases o2:(tu:Int)<now
     .rw[if_pos (.inr o2)];simp -implicitDefEqProofs only[go_sem,n1,n3,k1,t1,a1,bL,b5,b6,o1,o2]
      (repeat' (first|exact Zf.refl _ _|assumption|refine Zf.add ?_ _|refine Zf.Zj ?_ aaa _|refine Zf.trans aab ?_))
     .rw[if_neg gX];simp -implicitDefEqProofs only[go_sem,n1,n3,k1,t1,a1,bL,b5,b6,o1,o2]
      (repeat' (first|exact Zf.refl _ _|assumption|refine Zf.add ?_ _|refine Zf.Zj ?_ aaa _|refine Zf.trans aab ?_))
  .have t1:=pn _ t0;rw[if_pos (.inr t0)];simp -implicitDefEqProofs only[go_sem,n1,k1,t1,bL,b5,b6]
   (repeat' (first|exact Zf.refl _ _|assumption|refine Zf.add ?_ _|refine Zf.Zj ?_ aaa _|refine Zf.trans aab ?_))
theorem Zbu:Tryz.prog.globalNamed "conclave/order.need" = some 0:=po
theorem Zdj:(Tryz.prog.globals[0]?).map (·.type)=some 139:=po
theorem qL:(Rows.laid_conclave_order_need:DataW Unit)=Lib.tabData a (Sh.map fun n:Nat=>(n:Int)):=po
theorem yk{W:World}(h:laidMetH i [("conclave/order.need", Rows.laid_conclave_order_need)] W):Dl 0 niv Sh W.heap:=by
 rw[qL]at h;exact pj Zbu (Lib.tabIs_of_head (rest:=[]) Zbu Zdj Tryz.underlying139 Tryz.underlying3 po po h) MZ
end Go.Proofs.YtdpjmhgbmhjniaaGreatDoor
