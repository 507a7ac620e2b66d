/- TopGrows holds: a log only grows while its node is up, by Steps alone; answers that were told stay told; the tables as the program lays them. -/
import Derived.Test.YtkfhncfkagcamaaGreatDoorTpt
import Derived.Test.YtkfhncfkagcamaaGreatDoorW21
import Derived.Test.YtkfhncfkagcamaaGreatDoorCards
import Derived.Test.YtkfhncfkagcamaaGreatDoorTie
namespace Go.Proofs.YtkfhncfkagcamaaGreatDoor
open Go Go.V
set_option linter.unusedSimpArgs false
set_option linter.unusedVariables false
set_option maxRecDepth 100000
theorem Cw:Ls Tryz.prog TkM 3 Tryz.f3.params.toList:=by
 intro T args tkn Xr
 rw[show Tryz.f3.params.toList=[22] from rfl]at Xr
 obtain⟨v,_,rfl,⟨k1,h1⟩,Xr⟩:=fitAll_cons Xr
 obtain rfl:=fitAll_nil Xr
 obtain⟨gs,s,Jk⟩:=O1 (TK (by kernel_rfl) h1)
 exact vP T T.heap v gs s Jk tkn.tbs
set_option maxRecDepth 100000 in
theorem Mu (os:Os) (started:os.Started) (H:Type) (enc:TypeId × Value→H) :
  ReturnsInHanded {} Tryz.checked os 3 .any (fun w args=>(Rows.topGrowsSpec.pre enc Tryz.prog Tryz.f3 [] false w args∧laidMetH Tryz.prog Rows.topGrowsRow.laid w)∧sizedMet enc Tryz.prog Tryz.f3 (OpenSpec.ofChange Rows.topGrowsSpec) false w args)
   (Rows.topGrowsSpec.post enc Tryz.prog Tryz.f3 false true false false):=
 TO (C:=Tryz.checked) (laid:=Rows.topGrowsRow.laid) Lw started (by kernel_rfl) Tryz.func3
  (ChangeSpec.witness_shaped (enc:=enc) (C:=Tryz.checked) (os:=os) (X:=fun w _=>laidMetH Tryz.prog Rows.topGrowsRow.laid w) false (World.doorLaid Tryz.prog 87 os) #[.slice none 0 0] 12 rfl (RH os _) (by kernel_rfl) (by kernel_rfl) (by kernel_rfl) (O0 os _))
  Lx (by kernel_rfl) (by kernel_rfl) (tb:=4) rfl Tryz.underlying4 rfl (fun ds hd=>by
   have hl:ds.length=1:=hd
   match ds,hl with
   | [d0],_=>rfl) (fun W h=>KT h) Cw
theorem IP:Rows.TopGrowsSaid:=
 OpenClaim.holds_of_wide 3 Tryz.f3 rfl rfl rfl rfl rfl rfl rfl ⟨rfl,rfl,rfl,rfl,rfl⟩ rfl rfl rfl rfl rfl (by kernel_rfl) Tryz.func3 (show joinedFacts Tryz.prog 3 Tryz.f3 Rows.topGrowsSpec Rows.topGrowsRow=true by unfold joinedFacts;rw[lU,BR,BQ];kernel_rfl)
  (of_decide_eq_true (by kernel_rfl)) (by unfold Func.isWrapper;rw[if_neg (of_decide_eq_false (by kernel_rfl))];exact⟨rfl,rfl⟩)
  (fun os started H enc _=>Mu os started H enc)
theorem KU (f:FuncId) (fn:Func) (hf:Tryz.pinned.checked.prog.funcNamed "conclave/conclavetop.TopGrows" = some f) (dO:Tryz.pinned.checked.prog.funcs[f]? = some fn) :
  false=Tryz.pinned.checked.prog.looks []∧∀(j:Nat) t,fn.params[j]? = some t→Tryz.pinned.checked.prog.wantsStandIn t=false:=by
 obtain rfl:f=3:=Option.some.inj ((show Tryz.prog.funcNamed "conclave/conclavetop.TopGrows" = some 3 by kernel_rfl).symm.trans hf) |>.symm
 obtain rfl:fn=Tryz.f3:=(Option.some.inj (Tryz.func3.symm.trans dO)).symm
 refine⟨by kernel_rfl,fun j t ht=>?_⟩
 have hm:t∈Tryz.f3.params.toList:=by simpa using Array.mem_of_getElem? ht
 have YH:(Tryz.f3.params.toList.all fun u=>!Tryz.prog.wantsStandIn u)=true:=by kernel_rfl
 exact (show Tryz.prog.wantsStandIn t=false by simpa using List.all_eq_true.1 YH t hm)
theorem topGrows_card:Rows.TopGrowsCardSaid:=
 Claim7.holds_tied_plain_at .later [] _ _ _ _ IP (fun _ h=>by cases h) (by kernel_rfl) (fun _ h=>by cases h) topGrows_row_tie rfl ⟨rfl,rfl⟩ (Rv (L:=Sz.map Char.ofNat) (by kernel_rfl) (by kernel_rfl)) rfl KU (by kernel_rfl)
end Go.Proofs.YtkfhncfkagcamaaGreatDoor
