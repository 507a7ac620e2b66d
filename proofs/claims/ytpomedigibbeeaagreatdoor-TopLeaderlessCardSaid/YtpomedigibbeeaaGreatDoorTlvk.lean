/- TopLeaderless holds: where nobody leads nothing is done; the tables as the program lays them. -/
import Derived.Test.YtpomedigibbeeaaGreatDoorTpt
import Derived.Test.YtpomedigibbeeaaGreatDoorW21
import Derived.Test.YtpomedigibbeeaaGreatDoorCards
import Derived.Test.YtpomedigibbeeaaGreatDoorTie
namespace Go.Proofs.YtpomedigibbeeaaGreatDoor
open Go Go.V
set_option linter.unusedSimpArgs false
set_option linter.unusedVariables false
set_option maxRecDepth 100000
theorem ON:CL Tryz.prog TkM 6 Tryz.f6.params.toList:=by
 intro T args tkn JO
 rw[show Tryz.f6.params.toList=[22] from rfl]at JO
 obtain⟨v,_,rfl,⟨k1,h1⟩,JO⟩:=fitAll_cons JO
 obtain rfl:=fitAll_nil JO
 obtain⟨gs,s,JF⟩:=gL (jJ (by kernel_rfl) h1)
 exact Ie T T.heap v gs s JF tkn.tbs
set_option maxRecDepth 100000 in
theorem T9 (os:Os) (started:os.Started) (H:Type) (enc:TypeId × Value→H) :
  ReturnsInHanded {} Tryz.checked os 6 .any (fun w args=>(Rows.topLeaderlessSpec.pre enc Tryz.prog Tryz.f6 [] false w args∧laidMetH Tryz.prog Rows.topLeaderlessRow.laid w)∧sizedMet enc Tryz.prog Tryz.f6 (OpenSpec.ofChange Rows.topLeaderlessSpec) false w args)
   (Rows.topLeaderlessSpec.post enc Tryz.prog Tryz.f6 false true false false):=
 FD (C:=Tryz.checked) (laid:=Rows.topLeaderlessRow.laid) j3 started (by kernel_rfl) Tryz.func6
  (ChangeSpec.witness_shaped (enc:=enc) (C:=Tryz.checked) (os:=os) (X:=fun w _=>laidMetH Tryz.prog Rows.topLeaderlessRow.laid w) false (World.doorLaid Tryz.prog 87 os) #[.slice none 0 0] 12 rfl (BL os _) (by kernel_rfl) (by kernel_rfl) (by kernel_rfl) (gK os _))
  j4 (by kernel_rfl) (by kernel_rfl) (tb:=4) rfl Tryz.underlying4 rfl (fun ds hd=>by
   have hl:ds.length=1:=hd
   match ds,hl with
   | [d0],_=>rfl) (fun W h=>nV h) ON
theorem RB:Rows.TopLeaderlessSaid:=
 OpenClaim.holds_of_wide 6 Tryz.f6 rfl rfl rfl rfl rfl rfl rfl ⟨rfl,rfl,rfl,rfl,rfl⟩ rfl rfl rfl rfl rfl (by kernel_rfl) Tryz.func6 (show joinedFacts Tryz.prog 6 Tryz.f6 Rows.topLeaderlessSpec Rows.topLeaderlessRow=true by unfold joinedFacts;rw[Zcr,xp,xo];kernel_rfl)
  (of_decide_eq_true (by kernel_rfl)) (by unfold Func.isWrapper;rw[if_neg (of_decide_eq_false (by kernel_rfl))];exact⟨rfl,rfl⟩)
  (fun os started H enc _=>T9 os started H enc)
theorem SI (f:FuncId) (fn:Func) (hf:Tryz.pinned.checked.prog.funcNamed "conclave/conclavetop.TopLeaderless" = some f) (oZ:Tryz.pinned.checked.prog.funcs[f]? = some fn) :
  false=Tryz.pinned.checked.prog.looks []∧∀(j:Nat) t,fn.params[j]? = some t→Tryz.pinned.checked.prog.wantsStandIn t=false:=by
 obtain rfl:f=6:=Option.some.inj ((show Tryz.prog.funcNamed "conclave/conclavetop.TopLeaderless" = some 6 by kernel_rfl).symm.trans hf) |>.symm
 obtain rfl:fn=Tryz.f6:=(Option.some.inj (Tryz.func6.symm.trans oZ)).symm
 refine⟨by kernel_rfl,fun j t ht=>?_⟩
 have hm:t∈Tryz.f6.params.toList:=by simpa using Array.mem_of_getElem? ht
 have Y3:(Tryz.f6.params.toList.all fun u=>!Tryz.prog.wantsStandIn u)=true:=by kernel_rfl
 exact (show Tryz.prog.wantsStandIn t=false by simpa using List.all_eq_true.1 Y3 t hm)
theorem topLeaderless_card:Rows.TopLeaderlessCardSaid:=
 Claim7.holds_tied_plain_at .later [] _ _ _ _ RB (fun _ h=>by cases h) (by kernel_rfl) (fun _ h=>by cases h) topLeaderless_row_tie rfl ⟨rfl,rfl⟩ (CO (L:=IB.map Char.ofNat) (by kernel_rfl) (by kernel_rfl)) rfl SI (by kernel_rfl)
end Go.Proofs.YtpomedigibbeeaaGreatDoor
