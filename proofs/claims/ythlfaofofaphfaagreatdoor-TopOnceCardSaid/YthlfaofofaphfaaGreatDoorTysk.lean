/- TopOnce holds: however often a client sends its command, and to whom, it has its effect once; the tables as the program lays them. -/
import Derived.Test.YthlfaofofaphfaaGreatDoorTys
import Derived.Test.YthlfaofofaphfaaGreatDoorTpt
import Derived.Test.YthlfaofofaphfaaGreatDoorW21
import Derived.Test.YthlfaofofaphfaaGreatDoorCards
import Derived.Test.YthlfaofofaphfaaGreatDoorTie
open Go.Value renaming int→p
open Go.IntKind renaming i64→o
open Go.Proofs.Tryz renaming underlying3→i,prog→m,checked→r,f3→y,func3→B
open List renaming length→A
namespace Go.Proofs.YthlfaofofaphfaaGreatDoor
open Go Go.V
set_option linter.unusedSimpArgs false
set_option linter.unusedVariables false
set_option maxRecDepth 100000
theorem EF{h:Hp}{k:Nat}{v:Value}(hv:EY m h k 23 v):∃a b c d e,v=.agg (Kh a b c d e).toArray/\i64 a/\i64 b/\i64 c/\i64 d/\i64 e:=by
 obtain⟨cs,rfl,iz⟩:=aE vM hv;have hlen:(A cs)=5:=by
  cases k with
  | zero=>exact iz.elim
  | succ k=>unfold fit at iz;rw[Tryz.underlying23]at iz;exact iz.1
 have hL:=aF (P:=m) (h:=h) 8 k 23 cs (rep 5 [3]) vM (by rw[hlen];decide) iz;obtain⟨a0,_,rfl,q0,p0,hL⟩:=UE i hL;obtain⟨a1,_,rfl,q1,p1,hL⟩:=UE i hL;obtain⟨a2,_,rfl,q2,p2,hL⟩:=UE i hL;obtain⟨a3,_,rfl,q3,p3,hL⟩:=UE i hL;obtain⟨a4,_,rfl,q4,p4,hL⟩:=UE i hL;obtain rfl:=aH hL;have mk:∀n:Int,-9223372036854775808<=n->n<=9223372036854775807->i64 n:=fun n h1 h2=>⟨h1,pA⟩
 exact⟨a0,a1,a2,a3,a4,rfl,mk _ q0 p0,mk _ q1 p1,mk _ q2 p2,mk _ q3 p3,mk _ q4 p4⟩
theorem Zb5{h:Hp}{k:Nat}{v:Value}(hv:fit m h k 24 [v]):∃ts,Ts Zi2 1 h v ts/\∀x∈ts,i64 x:=by
 obtain⟨ts,s,Um,_⟩:=qx (α:=Int) (enc:=Zi2) (n:=1) (ok:=fun x=>i64 x) Tryz.underlying24 vM aaa (fun _=>rfl) (fun k ds iz=>by
  obtain⟨a,rfl,qa⟩:=RX i iz;exact⟨a,Iy qa,rfl⟩) hv
 exact⟨ts,⟨s⟩,Um⟩
theorem mb:Bo m TkM 3 Tryz.f3.params.toList:=by
 intro T args tkn Jx;rw[show Tryz.f3.params.toList=[23,24,3] from rfl]at Jx;obtain⟨v,_,rfl,⟨k1,h1⟩,Jx⟩:=fitAll_cons Jx;obtain⟨u,_,rfl,⟨k2,h2⟩,Jx⟩:=fitAll_cons Jx;obtain⟨va,_,rfl,⟨k3,h3⟩,Jx⟩:=fitAll_cons Jx;obtain rfl:=fitAll_nil Jx;obtain⟨a,b,c,d,e,rfl,wa,wb,wc,wd,we⟩:=EF h1;obtain⟨ts,s,hts⟩:=Zb5 (Ri vM h2);obtain⟨l,hl,ql⟩:=RX i (Ri vM h3);simp only[List.cons.injEq,and_true]at hl;subst hl;exact Zb3 T T.heap a b c d e u ts l wa wb wc wd we s hts (Iy ql) tkn.tbs
set_option maxRecDepth 100000 in
theorem EG(os:Os)(started:os.Started)(H:Type)(enc:TypeId × Value->H):
  ReturnsInHanded {} r os 3 .any (fun w args=>(Rows.topOnceSpec.pre enc m y [] false w args/\laidMetH m Rows.topOnceRow.laid w)/\sizedMet enc m y (OpenSpec.ofChange Rows.topOnceSpec) false w args)
   (Rows.topOnceSpec.post enc m y false true false false):=
 IL (C:=r) (laid:=Rows.topOnceRow.laid) aW started vM B
  (ChangeSpec.witness_shaped (enc:=enc) (C:=r) (os:=os) (X:=fun w _=>laidMetH m Rows.topOnceRow.laid w) false (World.doorLaid m 87 os) #[.agg #[p o 0,p o 0,p o 0,p o 0,p o 0],.slice none 0 0,p o 0] 12 rfl (FA os _) vM vM vM (CU os _))
  aX vM vM (tb:=4) rfl Tryz.underlying4 rfl (fun ds hd=>by
   have hl:(A ds)=3:=hd
   match ds,hl with
   | [d0,d1,d2],_=>rfl) (fun W h=>fJ h) mb
theorem AI:Rows.TopOnceSaid:=
 OpenClaim.holds_of_wide 3 y rfl rfl rfl rfl rfl rfl rfl ⟨rfl,rfl,rfl,rfl,rfl⟩ rfl rfl rfl rfl rfl vM B (show joinedFacts m 3 y Rows.topOnceSpec Rows.topOnceRow=true by unfold joinedFacts;rw[Zfw,yD,yw];kernel_rfl)
  (of_decide_eq_true vM) (by unfold Func.isWrapper;rw[if_neg (of_decide_eq_false vM)];exact⟨rfl,rfl⟩)
  (fun os started H enc _=>EG os started H enc)
theorem Dv(f:FuncId)(fn:Func)(hf:Tryz.pinned.checked.prog.funcNamed "conclave/conclavetop.TopOnce" = some f)(vW:Tryz.pinned.checked.prog.funcs[f]? = some fn):
  false=Tryz.pinned.checked.prog.looks []/\∀(j:Nat) t,fn.params[j]? = some t->Tryz.pinned.checked.prog.wantsStandIn t=false:=by
 obtain rfl:f=3:=Option.some.inj ((show Tryz.prog.funcNamed "conclave/conclavetop.TopOnce" = some 3 by kernel_rfl).symm.trans hf) |>.symm
 obtain rfl:fn=y:=(Option.some.inj (Tryz.func3.symm.trans vW)).symm;refine⟨vM,fun j t ht=>?_⟩;have hm:t∈Tryz.f3.params.toList:=by simpa using Array.mem_of_getElem? ht
 have XO:(Tryz.f3.params.toList.all fun u=>!Tryz.prog.wantsStandIn u)=true:=vM;exact (show Tryz.prog.wantsStandIn t=false by simpa using List.all_eq_true.1 XO t hm)
theorem topOnce_card:Rows.TopOnceCardSaid:=
 Claim7.holds_tied_plain_at .later [] _ _ _ _ AI (fun _ h=>by cases h) vM (fun _ h=>by cases h) topOnce_row_tie rfl ⟨rfl,rfl⟩ (GZ (L:=KJ.map Char.ofNat) vM vM) rfl Dv vM
end Go.Proofs.YthlfaofofaphfaaGreatDoor
