/- TopBad holds: what is refused is counted, at the node that it came to; the tables as the program lays them. -/
import Derived.Test.YtkfhncfkagcamaaGreatDoorTbd
import Derived.Test.YtkfhncfkagcamaaGreatDoorTpt
import Derived.Test.YtkfhncfkagcamaaGreatDoorW21
import Derived.Test.YtkfhncfkagcamaaGreatDoorCards
import Derived.Test.YtkfhncfkagcamaaGreatDoorTie
namespace Go.Proofs.YtkfhncfkagcamaaGreatDoor
open Go Go.V
set_option linter.unusedSimpArgs false
set_option linter.unusedVariables false
set_option maxRecDepth 100000
theorem jf:Ls Tryz.prog TkM 6 Tryz.f6.params.toList:=by
 intro T args tkn Xr
 rw[show Tryz.f6.params.toList=[22] from rfl]at Xr
 obtain⟨v,_,rfl,⟨k1,h1⟩,Xr⟩:=fitAll_cons Xr
 obtain rfl:=fitAll_nil Xr
 obtain⟨gs,s,Jk⟩:=O1 (TK (by kernel_rfl) h1)
 exact vW T T.heap v gs s Jk tkn.tbs
set_option maxRecDepth 100000 in
theorem IQ (os:Os) (started:os.Started) (H:Type) (enc:TypeId × Value→H) :
  ReturnsInHanded {} Tryz.checked os 6 .any (fun w args=>(Rows.topBadSpec.pre enc Tryz.prog Tryz.f6 [] false w args∧laidMetH Tryz.prog Rows.topBadRow.laid w)∧sizedMet enc Tryz.prog Tryz.f6 (OpenSpec.ofChange Rows.topBadSpec) false w args)
   (Rows.topBadSpec.post enc Tryz.prog Tryz.f6 false true false false):=
 TO (C:=Tryz.checked) (laid:=Rows.topBadRow.laid) Lw started (by kernel_rfl) Tryz.func6
  (ChangeSpec.witness_shaped (enc:=enc) (C:=Tryz.checked) (os:=os) (X:=fun w _=>laidMetH Tryz.prog Rows.topBadRow.laid w) false (World.doorLaid Tryz.prog 87 os) #[.slice none 0 0] 12 rfl (RH os _) (by kernel_rfl) (by kernel_rfl) (by kernel_rfl) (O0 os _))
  Lx (by kernel_rfl) (by kernel_rfl) (tb:=4) rfl Tryz.underlying4 rfl (fun ds hd=>by
   have hl:ds.length=1:=hd
   match ds,hl with
   | [d0],_=>rfl) (fun W h=>KT h) jf
theorem Cy:Rows.TopBadSaid:=
 OpenClaim.holds_of_wide 6 Tryz.f6 rfl rfl rfl rfl rfl rfl rfl ⟨rfl,rfl,rfl,rfl,rfl⟩ rfl rfl rfl rfl rfl (by kernel_rfl) Tryz.func6 (show joinedFacts Tryz.prog 6 Tryz.f6 Rows.topBadSpec Rows.topBadRow=true by unfold joinedFacts;rw[lU,BR,BQ];kernel_rfl)
  (of_decide_eq_true (by kernel_rfl)) (by unfold Func.isWrapper;rw[if_neg (of_decide_eq_false (by kernel_rfl))];exact⟨rfl,rfl⟩)
  (fun os started H enc _=>IQ os started H enc)
theorem FA (f:FuncId) (fn:Func) (hf:Tryz.pinned.checked.prog.funcNamed "conclave/conclavetop.TopBad" = some f) (dO:Tryz.pinned.checked.prog.funcs[f]? = some fn) :
  false=Tryz.pinned.checked.prog.looks []∧∀(j:Nat) t,fn.params[j]? = some t→Tryz.pinned.checked.prog.wantsStandIn t=false:=by
 obtain rfl:f=6:=Option.some.inj ((show Tryz.prog.funcNamed "conclave/conclavetop.TopBad" = some 6 by kernel_rfl).symm.trans hf) |>.symm
 obtain rfl:fn=Tryz.f6:=(Option.some.inj (Tryz.func6.symm.trans dO)).symm
 refine⟨by kernel_rfl,fun j t ht=>?_⟩
 have hm:t∈Tryz.f6.params.toList:=by simpa using Array.mem_of_getElem? ht
 have YH:(Tryz.f6.params.toList.all fun u=>!Tryz.prog.wantsStandIn u)=true:=by kernel_rfl
 exact (show Tryz.prog.wantsStandIn t=false by simpa using List.all_eq_true.1 YH t hm)
theorem topBad_card:Rows.TopBadCardSaid:=
 Claim7.holds_tied_plain_at .later [] _ _ _ _ Cy (fun _ h=>by cases h) (by kernel_rfl) (fun _ h=>by cases h) topBad_row_tie rfl ⟨rfl,rfl⟩ (Rv (L:=Sz.map Char.ofNat) (by kernel_rfl) (by kernel_rfl)) rfl FA (by kernel_rfl)
end Go.Proofs.YtkfhncfkagcamaaGreatDoor
