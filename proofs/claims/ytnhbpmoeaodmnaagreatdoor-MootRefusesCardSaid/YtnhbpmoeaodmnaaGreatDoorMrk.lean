/- MootRefuses holds: moot.Run refuses exactly what the document refuses, and changes no act; the tables as the program lays them. -/
import Derived.Test.YtnhbpmoeaodmnaaGreatDoorMrl
import Derived.Test.YtnhbpmoeaodmnaaGreatDoorW21
import Derived.Test.YtnhbpmoeaodmnaaGreatDoorCards
import Derived.Test.YtnhbpmoeaodmnaaGreatDoorTie
namespace Go.Proofs.YtnhbpmoeaodmnaaGreatDoor
open Go Go.V
set_option linter.unusedSimpArgs false
set_option linter.unusedVariables false
set_option maxRecDepth 100000
set_option maxRecDepth 100000 in
theorem mootRefuses_lifted (os:Os) (started:os.Started) (H:Type) (enc:TypeId × Value→H) :
  ReturnsInHanded {} Tryz.checked os 3 .any (fun w args=>(Rows.mootRefusesSpec.pre enc Tryz.prog Tryz.f3 [] false w args∧laidMetH Tryz.prog Rows.mootRefusesRow.laid w)∧sizedMet enc Tryz.prog Tryz.f3 (OpenSpec.ofChange Rows.mootRefusesSpec) false w args)
   (Rows.mootRefusesSpec.post enc Tryz.prog Tryz.f3 false true false false):=
 law_liftedL (C:=Tryz.checked) (laid:=Rows.mootRefusesRow.laid) ownKnobT started (by kernel_rfl) Tryz.func3
  (ChangeSpec.witness_shaped (enc:=enc) (C:=Tryz.checked) (os:=os) (X:=fun w _=>laidMetH Tryz.prog Rows.mootRefusesRow.laid w) false (World.doorLaid Tryz.prog 87 os) #[.slice none 0 0] 12 rfl (doorShaped os _) (by kernel_rfl) (by kernel_rfl) (by kernel_rfl) (doorBothM os _))
  laidOutT (by kernel_rfl) (by kernel_rfl) (tb:=4) rfl Tryz.underlying4 rfl (fun ds hd=>by
   have hl:ds.length=1:=hd
   match ds,hl with
   | [d0],_=>rfl) (fun W h=>bothTabM h) mootRefuses_ok
theorem mootRefuses_said:Rows.MootRefusesSaid:=
 OpenClaim.holds_of_wide 3 Tryz.f3 rfl rfl rfl rfl rfl rfl rfl ⟨rfl,rfl,rfl,rfl,rfl⟩ rfl rfl rfl rfl rfl (by kernel_rfl) Tryz.func3 (show joinedFacts Tryz.prog 3 Tryz.f3 Rows.mootRefusesSpec Rows.mootRefusesRow=true by unfold joinedFacts; rw [makeT,enterT,liftsT]; kernel_rfl)
  (of_decide_eq_true (by kernel_rfl)) (by unfold Func.isWrapper; rw [if_neg (of_decide_eq_false (by kernel_rfl))]; exact ⟨rfl,rfl⟩)
  (fun os started H enc _=>mootRefuses_lifted os started H enc)
theorem mootRefuses_plain (f:FuncId) (fn:Func) (hf:Tryz.pinned.checked.prog.funcNamed "conclave/conclavelaw.MootRefuses" = some f) (hfn:Tryz.pinned.checked.prog.funcs[f]? = some fn) :
  false=Tryz.pinned.checked.prog.looks []∧∀ (j:Nat) t,fn.params[j]? = some t→Tryz.pinned.checked.prog.wantsStandIn t=false:=by
 obtain rfl:f=3:=Option.some.inj ((show Tryz.prog.funcNamed "conclave/conclavelaw.MootRefuses" = some 3 by kernel_rfl).symm.trans hf) |>.symm
 obtain rfl:fn=Tryz.f3:=(Option.some.inj (Tryz.func3.symm.trans hfn)).symm
 refine ⟨by kernel_rfl,fun j t ht=>?_⟩
 have hm:t∈Tryz.f3.params.toList:=by simpa using Array.mem_of_getElem? ht
 have hall:(Tryz.f3.params.toList.all fun u=>!Tryz.prog.wantsStandIn u)=true:=by kernel_rfl
 exact (show Tryz.prog.wantsStandIn t=false by simpa using List.all_eq_true.1 hall t hm)
theorem mootRefuses_card:Rows.MootRefusesCardSaid:=
 Claim7.holds_tied_plain_at .later [] _ _ _ _ mootRefuses_said (fun _ h=>by cases h) (by kernel_rfl) (fun _ h=>by cases h) mootRefuses_row_tie rfl ⟨rfl,rfl⟩ (main_words (L:=headCodes.map Char.ofNat) (by kernel_rfl) (by kernel_rfl)) rfl mootRefuses_plain (by kernel_rfl)
end Go.Proofs.YtnhbpmoeaodmnaaGreatDoor
