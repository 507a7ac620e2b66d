/- Part Tab. -/
import Derived.Test.YtkhkmpfenaipaaaGreatDoorW16
import Derived.Test.YtkhkmpfenaipaaaGreatDoorLchks
import Derived.ProofKit
import Derived.Test.YtkhkmpfenaipaaaGreatDoorVst
open Go.IntKind renaming i64→a
open Go.Proofs.Tryz renaming prog→b
namespace Go.Proofs.YtkhkmpfenaipaaaGreatDoor
open Go Go.V
set_option linter.all false
set_option maxRecDepth 100000
theorem ZpI:Tryz.prog.globalNamed "conclave/sha.numbers" = some 1:=zI
theorem ZpJ:(Tryz.prog.globals[1]?).map (·.type)=some 195:=zI
theorem ZgD:(Rows.laid_conclave_sha_numbers:DataW Unit)=Lib.tabData .u32 (kN.map fun n:Nat=>(n:Int)):=zI
theorem ZkV{W:World}(h:laidMetH b [("conclave/sha.numbers", Rows.laid_conclave_sha_numbers)] W):aD 1 wv kN W.heap:=by
 rw[ZgD]at h;exact Zbg ZpI (Lib.tabIs_of_head (rest:=[]) ZpI ZpJ Tryz.underlying195 Tryz.underlying176 zI zI h) HE
theorem np(os:Os)(args:Array Value):((World.doorLaid b 87 os).forCall (fun _ _=>0) ⟨#[],args,[]⟩).Shaped b:=World.shaped_of_RefB zI zI
def CV(k r:Nat):Prop:=(k=1/\r/2%2=1)\/(k=2/\r%2=1)\/(k=3/\r/4=1)
instance (k r:Nat):Decidable (CV k r):=by unfold CV;infer_instance
def Px(f e d k c s n v now:Int):Int:=
 if QN f e d≠0 then QN f e d else
 if Xy k c s n v≠0 then Xy k c s n v else
 if ¬CV k.toNat e.toNat\/f≠c then 11 else
 if now<0\/d<now then 10 else 0
def OM:List Nat:=[0,2,1,4]
def niv(x:Nat):Value:=.int a (x:Nat)
theorem Zcf{k r:Nat}(c:k<4)(hr:r<8):Y1 .and a (r:Nat) (OM.getD k 0:Nat)=0↔¬CV k r:=by
 rw[ZfX _ _ uh (by rcases k with _|_|_|_|k<;>first|decide|omega)];have all:∀k,k<4->∀r,r<8->(r &&& OM.getD k 0=0↔¬CV k r):=HE
 grind
theorem gI{c r u:Int}(h:QN c r u=0):∃c' r' d:Nat,c=c'/\r=r'/\u=d/\c'<8/\r'<8/\d<=1048576:=by
 unfold QN at h;split at h
 .cases h
 .exact⟨c.toNat,r.toNat,u.toNat,uh,uh,uh,uh,uh,uh⟩
theorem gJ{k c s n v:Int}(h:Xy k c s n v=0):∃k':Nat,k=k'/\k'<4:=by
 unfold Xy at h;split at h
 .cases h
 .exact⟨k.toNat,uh,uh⟩
theorem wJ(T:World)(h:Hp)(g d f k c s n v now:Int)(tn:aD 0 niv OM h):
  Zg b T 24 #[.agg (Oi g d f).toArray,.agg (Wg k c s n v).toArray,.int a now] h fun E h'=>E=.int a (Px g d f k c s n v now)/\Zm h.size h h':=by
 refine Zg.X8 [_,_,_] Tryz.func24 ?_;unfold Oi Wg;have hb:(0:Nat)<h.size:=tn.1;simp +contextual only[go_sem];refine (Ep T _ g d f).use ?_;rintro _ _ ⟨rfl,rfl⟩;unfold Oi;by_cases u:QN g d f=0
 case neg=>
  have e:Px g d f k c s n v now=QN g d f:=by unfold Px;rw[if_pos u]
  rw[e];simp +contextual only[go_sem,u]
  grind [Zm.add,Zm.refl]
 obtain⟨g,d,f,rfl,rfl,rfl,I,G,H⟩:=gI u;simp +contextual only[go_sem,u];refine (U9 T _ k c s n v).use ?_;rintro _ _ ⟨rfl,rfl⟩;unfold Wg;by_cases t:Xy k c s n v=0
 case neg=>
  have e:Px g d f k c s n v now=Xy k c s n v:=by unfold Px;rw[if_neg uh,if_pos t]
  rw[e];simp +contextual only[go_sem,t]
  grind [Zm.add,Zm.refl]
 obtain⟨k,rfl,D⟩:=gJ t;have l:hc h ⟨0,k,none⟩=some (.int a (OM.getD k 0:Nat)):=tn.2 k D;have n2:=Zcf D G;have m:(k:Int)<4:=uh;have q:0<=(k:Int):=uh;have o:(k:Int).toNat=k:=uh;let⟨A,C⟩:=ZO (Y1 .and a (d:Nat) (OM.getD k 0:Nat));rw[<-C]at n2;have n3:Y1 .and a (d:Nat) (OM.getD k 0:Nat)=A:=C.symm;generalize OM.getD k 0=N at *;clear C;have e:Px g d f k c s n v now=if ¬CV k d\/(g:Int)≠c then 11 else if now<0\/(f:Int)<now then 10 else 0:=by
  unfold Px;rw[if_neg uh,if_neg uh];rfl
 rw[e];clear e;have y:∀(p:Prop),p->p=True:=fun p B=>eq_true B;have pn:∀(p:Prop),¬p->p=False:=fun p B=>eq_false B;rw[t];by_cases k0:(k:Int)=0
 .have z1:¬CV k d:=by unfold CV;omega
  have i:=y _ k0;rw[if_pos (.inl z1)];simp only[go_sem,l,i,m,q,o]
  grind [Zm.add,Zm.refl]
 .have i:=pn _ k0;by_cases t0:(g:Int)=c
  .have j:=y _ t0;by_cases x:A=0
   .have z1:=n2.1 x;rw[if_pos (.inl z1)];have r:=y _ x;simp only[go_sem,l,n3,i,j,r,m,q,o]
    grind [Zm.add,Zm.refl]
   .have z1:CV k d:=Decidable.not_not.1 (fun F=>x (n2.2 F));have r:=pn _ x;rw[if_neg zK];by_cases w:now<0
    .rw[if_pos (.inl w)];simp only[go_sem,l,n3,i,j,r,m,q,o,w]
     grind [Zm.add,Zm.refl]
    .by_cases z:(f:Int)<now
     .rw[if_pos (.inr z)];simp only[go_sem,l,n3,i,j,r,m,q,o,w,z]
      grind [Zm.add,Zm.refl]
     .rw[if_neg uh];simp only[go_sem,l,n3,i,j,r,m,q,o,w,z]
      grind [Zm.add,Zm.refl]
  .have j:=pn _ t0;rw[if_pos (.inr t0)];simp only[go_sem,l,i,j,m,q,o]
   grind [Zm.add,Zm.refl]
theorem Zi7:Tryz.prog.globalNamed "conclave/order.need" = some 0:=zI
theorem ZkW:(Tryz.prog.globals[0]?).map (·.type)=some 120:=zI
theorem Zcg:(Rows.laid_conclave_order_need:DataW Unit)=Lib.tabData a (OM.map fun n:Nat=>(n:Int)):=zI
theorem ZgE{W:World}(h:laidMetH b [("conclave/order.need", Rows.laid_conclave_order_need)] W):aD 0 niv OM W.heap:=by
 rw[Zcg]at h;exact Zbg Zi7 (Lib.tabIs_of_head (rest:=[]) Zi7 ZkW Tryz.underlying120 Tryz.underlying3 zI zI h) HE
end Go.Proofs.YtkhkmpfenaipaaaGreatDoor
