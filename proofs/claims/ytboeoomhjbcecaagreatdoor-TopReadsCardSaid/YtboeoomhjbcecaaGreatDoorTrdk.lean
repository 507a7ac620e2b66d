/- TopReads holds: a get tells what was put last, in the order in which all was done; the tables as the program lays them. -/
import Derived.Test.YtboeoomhjbcecaaGreatDoorTwf
import Derived.Test.YtboeoomhjbcecaaGreatDoorTpt
import Derived.Test.YtboeoomhjbcecaaGreatDoorW21
import Derived.Test.YtboeoomhjbcecaaGreatDoorCards
import Derived.Test.YtboeoomhjbcecaaGreatDoorTie
namespace Go.Proofs.YtboeoomhjbcecaaGreatDoor
open Go Go.V
set_option linter.unusedSimpArgs false
set_option linter.unusedVariables false
set_option maxRecDepth 100000
theorem Bo:AH Tryz.prog TkM 4 Tryz.f4.params.toList:=by
 intro T args tkn J4;rw[show Tryz.f4.params.toList=[22,3] from rfl]at J4;obtain⟨v,_,rfl,⟨k1,h1⟩,J4⟩:=fitAll_cons J4;obtain⟨va,_,rfl,⟨k2,h2⟩,J4⟩:=fitAll_cons J4;obtain rfl:=fitAll_nil J4;obtain⟨gs,s,J2⟩:=kM (EZ (by kernel_rfl) h1);obtain⟨a,ha,qa⟩:=dn Tryz.underlying3 (EZ (by kernel_rfl) h2);simp only[List.cons.injEq,and_true]at ha;subst ha;exact kK T T.heap v gs a s J2 (Zda qa) tkn.tbs
set_option maxRecDepth 100000 in
theorem Lk (os:Os) (started:os.Started) (H:Type) (enc:TypeId × Value→H) :
  ReturnsInHanded {} Tryz.checked os 4 .any (fun w args=>(Rows.topReadsSpec.pre enc Tryz.prog Tryz.f4 [] false w args∧laidMetH Tryz.prog Rows.topReadsRow.laid w)∧sizedMet enc Tryz.prog Tryz.f4 (OpenSpec.ofChange Rows.topReadsSpec) false w args)
   (Rows.topReadsSpec.post enc Tryz.prog Tryz.f4 false true false false):=
 Df (C:=Tryz.checked) (laid:=Rows.topReadsRow.laid) nP started (by kernel_rfl) Tryz.func4
  (ChangeSpec.witness_shaped (enc:=enc) (C:=Tryz.checked) (os:=os) (X:=fun w _=>laidMetH Tryz.prog Rows.topReadsRow.laid w) false (World.doorLaid Tryz.prog 87 os) #[.slice none 0 0,.int .i64 0] 12 rfl (aP os _) (by kernel_rfl) (by kernel_rfl) (by kernel_rfl) (kL os _))
  nQ (by kernel_rfl) (by kernel_rfl) (tb:=4) rfl Tryz.underlying4 rfl (fun ds hd=>by
   have hl:ds.length=2:=hd
   match ds,hl with
   | [d0,d1],_=>rfl) (fun W h=>tp h) Bo
theorem HG:Rows.TopReadsSaid:=
 OpenClaim.holds_of_wide 4 Tryz.f4 rfl rfl rfl rfl rfl rfl rfl ⟨rfl,rfl,rfl,rfl,rfl⟩ rfl rfl rfl rfl rfl (by kernel_rfl) Tryz.func4 (show joinedFacts Tryz.prog 4 Tryz.f4 Rows.topReadsSpec Rows.topReadsRow=true by unfold joinedFacts;rw[Zfm,Zbj,Zbi];kernel_rfl)
  (of_decide_eq_true (by kernel_rfl)) (by unfold Func.isWrapper;rw[if_neg (of_decide_eq_false (by kernel_rfl))];exact⟨rfl,rfl⟩)
  (fun os started H enc _=>Lk os started H enc)
theorem IS (f:FuncId) (fn:Func) (hf:Tryz.pinned.checked.prog.funcNamed "conclave/conclavetop.TopReads" = some f) (ue:Tryz.pinned.checked.prog.funcs[f]? = some fn) :
  false=Tryz.pinned.checked.prog.looks []∧∀(j:Nat) t,fn.params[j]? = some t→Tryz.pinned.checked.prog.wantsStandIn t=false:=by
 obtain rfl:f=4:=Option.some.inj ((show Tryz.prog.funcNamed "conclave/conclavetop.TopReads" = some 4 by kernel_rfl).symm.trans hf) |>.symm
 obtain rfl:fn=Tryz.f4:=(Option.some.inj (Tryz.func4.symm.trans ue)).symm;refine⟨by kernel_rfl,fun j t ht=>?_⟩;have hm:t∈Tryz.f4.params.toList:=by simpa using Array.mem_of_getElem? ht
 have Xk:(Tryz.f4.params.toList.all fun u=>!Tryz.prog.wantsStandIn u)=true:=by kernel_rfl
 exact (show Tryz.prog.wantsStandIn t=false by simpa using List.all_eq_true.1 Xk t hm)
theorem topReads_card:Rows.TopReadsCardSaid:=
 Claim7.holds_tied_plain_at .later [] _ _ _ _ HG (fun _ h=>by cases h) (by kernel_rfl) (fun _ h=>by cases h) topReads_row_tie rfl ⟨rfl,rfl⟩ (AK (L:=H7.map Char.ofNat) (by kernel_rfl) (by kernel_rfl)) rfl IS (by kernel_rfl)
end Go.Proofs.YtboeoomhjbcecaaGreatDoor
