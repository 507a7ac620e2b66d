/- TopLeaderless holds: where nobody leads nothing is done; the tables as the program lays them. -/
import Derived.Test.YtkfhncfkagcamaaGreatDoorTpt
import Derived.Test.YtkfhncfkagcamaaGreatDoorW21
import Derived.Test.YtkfhncfkagcamaaGreatDoorCards
import Derived.Test.YtkfhncfkagcamaaGreatDoorTie
namespace Go.Proofs.YtkfhncfkagcamaaGreatDoor
open Go Go.V
set_option linter.unusedSimpArgs false
set_option linter.unusedVariables false
set_option maxRecDepth 100000
theorem OP:CJ Tryz.prog TkM 5 Tryz.f5.params.toList:=by
 intro T args tkn JO
 rw[show Tryz.f5.params.toList=[22] from rfl]at JO
 obtain⟨v,_,rfl,⟨k1,h1⟩,JO⟩:=fitAll_cons JO
 obtain rfl:=fitAll_nil JO
 obtain⟨gs,s,JF⟩:=gH (jE (by kernel_rfl) h1)
 exact Ie T T.heap v gs s JF tkn.tbs
set_option maxRecDepth 100000 in
theorem T9 (os:Os) (started:os.Started) (H:Type) (enc:TypeId × Value→H) :
  ReturnsInHanded {} Tryz.checked os 5 .any (fun w args=>(Rows.topLeaderlessSpec.pre enc Tryz.prog Tryz.f5 [] false w args∧laidMetH Tryz.prog Rows.topLeaderlessRow.laid w)∧sizedMet enc Tryz.prog Tryz.f5 (OpenSpec.ofChange Rows.topLeaderlessSpec) false w args)
   (Rows.topLeaderlessSpec.post enc Tryz.prog Tryz.f5 false true false false):=
 FD (C:=Tryz.checked) (laid:=Rows.topLeaderlessRow.laid) jY started (by kernel_rfl) Tryz.func5
  (ChangeSpec.witness_shaped (enc:=enc) (C:=Tryz.checked) (os:=os) (X:=fun w _=>laidMetH Tryz.prog Rows.topLeaderlessRow.laid w) false (World.doorLaid Tryz.prog 87 os) #[.slice none 0 0] 12 rfl (BJ os _) (by kernel_rfl) (by kernel_rfl) (by kernel_rfl) (gG os _))
  jZ (by kernel_rfl) (by kernel_rfl) (tb:=4) rfl Tryz.underlying4 rfl (fun ds hd=>by
   have hl:ds.length=1:=hd
   match ds,hl with
   | [d0],_=>rfl) (fun W h=>nO h) OP
theorem RB:Rows.TopLeaderlessSaid:=
 OpenClaim.holds_of_wide 5 Tryz.f5 rfl rfl rfl rfl rfl rfl rfl ⟨rfl,rfl,rfl,rfl,rfl⟩ rfl rfl rfl rfl rfl (by kernel_rfl) Tryz.func5 (show joinedFacts Tryz.prog 5 Tryz.f5 Rows.topLeaderlessSpec Rows.topLeaderlessRow=true by unfold joinedFacts;rw[Zcm,xe,xd];kernel_rfl)
  (of_decide_eq_true (by kernel_rfl)) (by unfold Func.isWrapper;rw[if_neg (of_decide_eq_false (by kernel_rfl))];exact⟨rfl,rfl⟩)
  (fun os started H enc _=>T9 os started H enc)
theorem SJ (f:FuncId) (fn:Func) (hf:Tryz.pinned.checked.prog.funcNamed "conclave/conclavetop.TopLeaderless" = some f) (oU:Tryz.pinned.checked.prog.funcs[f]? = some fn) :
  false=Tryz.pinned.checked.prog.looks []∧∀(j:Nat) t,fn.params[j]? = some t→Tryz.pinned.checked.prog.wantsStandIn t=false:=by
 obtain rfl:f=5:=Option.some.inj ((show Tryz.prog.funcNamed "conclave/conclavetop.TopLeaderless" = some 5 by kernel_rfl).symm.trans hf) |>.symm
 obtain rfl:fn=Tryz.f5:=(Option.some.inj (Tryz.func5.symm.trans oU)).symm
 refine⟨by kernel_rfl,fun j t ht=>?_⟩
 have hm:t∈Tryz.f5.params.toList:=by simpa using Array.mem_of_getElem? ht
 have Y3:(Tryz.f5.params.toList.all fun u=>!Tryz.prog.wantsStandIn u)=true:=by kernel_rfl
 exact (show Tryz.prog.wantsStandIn t=false by simpa using List.all_eq_true.1 Y3 t hm)
theorem topLeaderless_card:Rows.TopLeaderlessCardSaid:=
 Claim7.holds_tied_plain_at .later [] _ _ _ _ RB (fun _ h=>by cases h) (by kernel_rfl) (fun _ h=>by cases h) topLeaderless_row_tie rfl ⟨rfl,rfl⟩ (CM (L:=IB.map Char.ofNat) (by kernel_rfl) (by kernel_rfl)) rfl SJ (by kernel_rfl)
end Go.Proofs.YtkfhncfkagcamaaGreatDoor
