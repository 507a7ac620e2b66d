/- TopChains holds: nodes that have done as much have the same chain and the same store; the tables as the program lays them. -/
import Derived.Test.YtboeoomhjbcecaaGreatDoorTpt
import Derived.Test.YtboeoomhjbcecaaGreatDoorW21
import Derived.Test.YtboeoomhjbcecaaGreatDoorCards
import Derived.Test.YtboeoomhjbcecaaGreatDoorTie
namespace Go.Proofs.YtboeoomhjbcecaaGreatDoor
open Go Go.V
set_option linter.unusedSimpArgs false
set_option linter.unusedVariables false
set_option maxRecDepth 100000
theorem Et:AJ Tryz.prog TkM 3 Tryz.f3.params.toList:=by
 intro T args tkn Qi;rw[show Tryz.f3.params.toList=[22] from rfl]at Qi;obtain⟨v,_,rfl,⟨k1,h1⟩,Qi⟩:=fitAll_cons Qi;obtain rfl:=fitAll_nil Qi;obtain⟨gs,s,J8⟩:=kJ (ny (by kernel_rfl) h1);exact kH T T.heap v gs s J8 tkn.tbs
set_option maxRecDepth 100000 in
theorem NW (os:Os) (started:os.Started) (H:Type) (enc:TypeId × Value→H) :
  ReturnsInHanded {} Tryz.checked os 3 .any (fun w args=>(Rows.topChainsSpec.pre enc Tryz.prog Tryz.f3 [] false w args∧laidMetH Tryz.prog Rows.topChainsRow.laid w)∧sizedMet enc Tryz.prog Tryz.f3 (OpenSpec.ofChange Rows.topChainsSpec) false w args)
   (Rows.topChainsSpec.post enc Tryz.prog Tryz.f3 false true false false):=
 Dj (C:=Tryz.checked) (laid:=Rows.topChainsRow.laid) nX started (by kernel_rfl) Tryz.func3
  (ChangeSpec.witness_shaped (enc:=enc) (C:=Tryz.checked) (os:=os) (X:=fun w _=>laidMetH Tryz.prog Rows.topChainsRow.laid w) false (World.doorLaid Tryz.prog 87 os) #[.slice none 0 0] 12 rfl (aQ os _) (by kernel_rfl) (by kernel_rfl) (by kernel_rfl) (kI os _))
  nY (by kernel_rfl) (by kernel_rfl) (tb:=4) rfl Tryz.underlying4 rfl (fun ds hd=>by
   have hl:ds.length=1:=hd
   match ds,hl with
   | [d0],_=>rfl) (fun W h=>tE h) Et
theorem IK:Rows.TopChainsSaid:=
 OpenClaim.holds_of_wide 3 Tryz.f3 rfl rfl rfl rfl rfl rfl rfl ⟨rfl,rfl,rfl,rfl,rfl⟩ rfl rfl rfl rfl rfl (by kernel_rfl) Tryz.func3 (show joinedFacts Tryz.prog 3 Tryz.f3 Rows.topChainsSpec Rows.topChainsRow=true by unfold joinedFacts;rw[Zfm,Zbk,Zbj];kernel_rfl)
  (of_decide_eq_true (by kernel_rfl)) (by unfold Func.isWrapper;rw[if_neg (of_decide_eq_false (by kernel_rfl))];exact⟨rfl,rfl⟩)
  (fun os started H enc _=>NW os started H enc)
theorem Lg (f:FuncId) (fn:Func) (hf:Tryz.pinned.checked.prog.funcNamed "conclave/conclavetop.TopChains" = some f) (uj:Tryz.pinned.checked.prog.funcs[f]? = some fn) :
  false=Tryz.pinned.checked.prog.looks []∧∀(j:Nat) t,fn.params[j]? = some t→Tryz.pinned.checked.prog.wantsStandIn t=false:=by
 obtain rfl:f=3:=Option.some.inj ((show Tryz.prog.funcNamed "conclave/conclavetop.TopChains" = some 3 by kernel_rfl).symm.trans hf) |>.symm
 obtain rfl:fn=Tryz.f3:=(Option.some.inj (Tryz.func3.symm.trans uj)).symm;refine⟨by kernel_rfl,fun j t ht=>?_⟩;have hm:t∈Tryz.f3.params.toList:=by simpa using Array.mem_of_getElem? ht
 have Xg:(Tryz.f3.params.toList.all fun u=>!Tryz.prog.wantsStandIn u)=true:=by kernel_rfl
 exact (show Tryz.prog.wantsStandIn t=false by simpa using List.all_eq_true.1 Xg t hm)
theorem topChains_card:Rows.TopChainsCardSaid:=
 Claim7.holds_tied_plain_at .later [] _ _ _ _ IK (fun _ h=>by cases h) (by kernel_rfl) (fun _ h=>by cases h) topChains_row_tie rfl ⟨rfl,rfl⟩ (AM (L:=H5.map Char.ofNat) (by kernel_rfl) (by kernel_rfl)) rfl Lg (by kernel_rfl)
end Go.Proofs.YtboeoomhjbcecaaGreatDoor
