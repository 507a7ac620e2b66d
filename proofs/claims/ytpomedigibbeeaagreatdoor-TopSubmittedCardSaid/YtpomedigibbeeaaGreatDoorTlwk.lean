/- TopSubmitted holds: what is done was sent by a client whose token allowed it, or is a Noop; the tables as the program lays them. -/
import Derived.Test.YtpomedigibbeeaaGreatDoorTpt
import Derived.Test.YtpomedigibbeeaaGreatDoorW21
import Derived.Test.YtpomedigibbeeaaGreatDoorCards
import Derived.Test.YtpomedigibbeeaaGreatDoorTie
namespace Go.Proofs.YtpomedigibbeeaaGreatDoor
open Go Go.V
set_option linter.unusedSimpArgs false
set_option linter.unusedVariables false
set_option maxRecDepth 100000
theorem MH:BE Tryz.prog TkM 4 Tryz.f4.params.toList:=by
 intro T args tkn J9
 rw[show Tryz.f4.params.toList=[22] from rfl]at J9
 obtain⟨v,_,rfl,⟨k1,h1⟩,J9⟩:=fitAll_cons J9
 obtain rfl:=fitAll_nil J9
 obtain⟨gs,s,JW⟩:=jo (lD (by kernel_rfl) h1)
 exact FH T T.heap v gs s JW tkn.tbs
set_option maxRecDepth 100000 in
theorem Rd (os:Os) (started:os.Started) (H:Type) (enc:TypeId × Value→H) :
  ReturnsInHanded {} Tryz.checked os 4 .any (fun w args=>(Rows.topSubmittedSpec.pre enc Tryz.prog Tryz.f4 [] false w args∧laidMetH Tryz.prog Rows.topSubmittedRow.laid w)∧sizedMet enc Tryz.prog Tryz.f4 (OpenSpec.ofChange Rows.topSubmittedSpec) false w args)
   (Rows.topSubmittedSpec.post enc Tryz.prog Tryz.f4 false true false false):=
 Eu (C:=Tryz.checked) (laid:=Rows.topSubmittedRow.laid) mi started (by kernel_rfl) Tryz.func4
  (ChangeSpec.witness_shaped (enc:=enc) (C:=Tryz.checked) (os:=os) (X:=fun w _=>laidMetH Tryz.prog Rows.topSubmittedRow.laid w) false (World.doorLaid Tryz.prog 87 os) #[.slice none 0 0] 12 rfl (AK os _) (by kernel_rfl) (by kernel_rfl) (by kernel_rfl) (jn os _))
  mj (by kernel_rfl) (by kernel_rfl) (tb:=4) rfl Tryz.underlying4 rfl (fun ds hd=>by
   have hl:ds.length=1:=hd
   match ds,hl with
   | [d0],_=>rfl) (fun W h=>qu h) MH
theorem OO:Rows.TopSubmittedSaid:=
 OpenClaim.holds_of_wide 4 Tryz.f4 rfl rfl rfl rfl rfl rfl rfl ⟨rfl,rfl,rfl,rfl,rfl⟩ rfl rfl rfl rfl rfl (by kernel_rfl) Tryz.func4 (show joinedFacts Tryz.prog 4 Tryz.f4 Rows.topSubmittedSpec Rows.topSubmittedRow=true by unfold joinedFacts;rw[ZdY,zK,zI];kernel_rfl)
  (of_decide_eq_true (by kernel_rfl)) (by unfold Func.isWrapper;rw[if_neg (of_decide_eq_false (by kernel_rfl))];exact⟨rfl,rfl⟩)
  (fun os started H enc _=>Rd os started H enc)
theorem Pm (f:FuncId) (fn:Func) (hf:Tryz.pinned.checked.prog.funcNamed "conclave/conclavetop.TopSubmitted" = some f) (rq:Tryz.pinned.checked.prog.funcs[f]? = some fn) :
  false=Tryz.pinned.checked.prog.looks []∧∀(j:Nat) t,fn.params[j]? = some t→Tryz.pinned.checked.prog.wantsStandIn t=false:=by
 obtain rfl:f=4:=Option.some.inj ((show Tryz.prog.funcNamed "conclave/conclavetop.TopSubmitted" = some 4 by kernel_rfl).symm.trans hf) |>.symm
 obtain rfl:fn=Tryz.f4:=(Option.some.inj (Tryz.func4.symm.trans rq)).symm
 refine⟨by kernel_rfl,fun j t ht=>?_⟩
 have hm:t∈Tryz.f4.params.toList:=by simpa using Array.mem_of_getElem? ht
 have Xb:(Tryz.f4.params.toList.all fun u=>!Tryz.prog.wantsStandIn u)=true:=by kernel_rfl
 exact (show Tryz.prog.wantsStandIn t=false by simpa using List.all_eq_true.1 Xb t hm)
theorem topSubmitted_card:Rows.TopSubmittedCardSaid:=
 Claim7.holds_tied_plain_at .later [] _ _ _ _ OO (fun _ h=>by cases h) (by kernel_rfl) (fun _ h=>by cases h) topSubmitted_row_tie rfl ⟨rfl,rfl⟩ (BH (L:=Hh.map Char.ofNat) (by kernel_rfl) (by kernel_rfl)) rfl Pm (by kernel_rfl)
end Go.Proofs.YtpomedigibbeeaaGreatDoor
