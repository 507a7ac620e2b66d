/- TopAgree holds: the logs of any two nodes are alike as far as both go, at any two times; the tables as the program lays them. -/
import Derived.Test.YtnhbpmoeaodmnaaGreatDoorTpt
import Derived.Test.YtnhbpmoeaodmnaaGreatDoorW21
import Derived.Test.YtnhbpmoeaodmnaaGreatDoorCards
import Derived.Test.YtnhbpmoeaodmnaaGreatDoorTie
namespace Go.Proofs.YtnhbpmoeaodmnaaGreatDoor
open Go Go.V
set_option linter.unusedSimpArgs false
set_option linter.unusedVariables false
set_option maxRecDepth 100000
theorem ZlW:ZmE Tryz.prog TkM 4 Tryz.f4.params.toList:=by
 intro T args tkn JX
 rw[show Tryz.f4.params.toList=[36] from rfl]at JX
 obtain⟨v,_,rfl,⟨k1,h1⟩,JX⟩:=fitAll_cons JX
 obtain rfl:=fitAll_nil JX
 obtain⟨gs,s,JL⟩:=Zri (Zsd (by kernel_rfl) h1)
 exact ZuA T T.heap v gs s JL tkn.tbs
set_option maxRecDepth 100000 in
theorem Zfz (os:Os) (started:os.Started) (H:Type) (enc:TypeId × Value→H) :
  ReturnsInHanded {} Tryz.checked os 4 .any (fun w args=>(Rows.topAgreeSpec.pre enc Tryz.prog Tryz.f4 [] false w args∧laidMetH Tryz.prog Rows.topAgreeRow.laid w)∧sizedMet enc Tryz.prog Tryz.f4 (OpenSpec.ofChange Rows.topAgreeSpec) false w args)
   (Rows.topAgreeSpec.post enc Tryz.prog Tryz.f4 false true false false):=
 Zki (C:=Tryz.checked) (laid:=Rows.topAgreeRow.laid) Zsv started (by kernel_rfl) Tryz.func4
  (ChangeSpec.witness_shaped (enc:=enc) (C:=Tryz.checked) (os:=os) (X:=fun w _=>laidMetH Tryz.prog Rows.topAgreeRow.laid w) false (World.doorLaid Tryz.prog 87 os) #[.slice none 0 0] 12 rfl (Zno os _) (by kernel_rfl) (by kernel_rfl) (by kernel_rfl) (Zrh os _))
  Zsw (by kernel_rfl) (by kernel_rfl) (tb:=4) rfl Tryz.underlying4 rfl (fun ds hd=>by
   have hl:ds.length=1:=hd
   match ds,hl with
   | [d0],_=>rfl) (fun W h=>ZuB h) ZlW
theorem ZhR:Rows.TopAgreeSaid:=
 OpenClaim.holds_of_wide 4 Tryz.f4 rfl rfl rfl rfl rfl rfl rfl ⟨rfl,rfl,rfl,rfl,rfl⟩ rfl rfl rfl rfl rfl (by kernel_rfl) Tryz.func4 (show joinedFacts Tryz.prog 4 Tryz.f4 Rows.topAgreeSpec Rows.topAgreeRow=true by unfold joinedFacts;rw[ZAv,Zx0,ZxZ];kernel_rfl)
  (of_decide_eq_true (by kernel_rfl)) (by unfold Func.isWrapper;rw[if_neg (of_decide_eq_false (by kernel_rfl))];exact⟨rfl,rfl⟩)
  (fun os started H enc _=>Zfz os started H enc)
theorem Zhl (f:FuncId) (fn:Func) (hf:Tryz.pinned.checked.prog.funcNamed "conclave/conclavetop.TopAgree" = some f) (hfn:Tryz.pinned.checked.prog.funcs[f]? = some fn) :
  false=Tryz.pinned.checked.prog.looks []∧∀(j:Nat) t,fn.params[j]? = some t→Tryz.pinned.checked.prog.wantsStandIn t=false:=by
 obtain rfl:f=4:=Option.some.inj ((show Tryz.prog.funcNamed "conclave/conclavetop.TopAgree" = some 4 by kernel_rfl).symm.trans hf) |>.symm
 obtain rfl:fn=Tryz.f4:=(Option.some.inj (Tryz.func4.symm.trans hfn)).symm
 refine⟨by kernel_rfl,fun j t ht=>?_⟩
 have hm:t∈Tryz.f4.params.toList:=by simpa using Array.mem_of_getElem? ht
 have YU:(Tryz.f4.params.toList.all fun u=>!Tryz.prog.wantsStandIn u)=true:=by kernel_rfl
 exact (show Tryz.prog.wantsStandIn t=false by simpa using List.all_eq_true.1 YU t hm)
theorem topAgree_card:Rows.TopAgreeCardSaid:=
 Claim7.holds_tied_plain_at .later [] _ _ _ _ ZhR (fun _ h=>by cases h) (by kernel_rfl) (fun _ h=>by cases h) topAgree_row_tie rfl ⟨rfl,rfl⟩ (ZmH (L:=Zh8.map Char.ofNat) (by kernel_rfl) (by kernel_rfl)) rfl Zhl (by kernel_rfl)
end Go.Proofs.YtnhbpmoeaodmnaaGreatDoor
