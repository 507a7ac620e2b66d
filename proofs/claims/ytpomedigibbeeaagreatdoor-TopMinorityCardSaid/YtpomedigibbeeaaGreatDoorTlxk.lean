/- TopMinority holds: two of five do nothing alone; the tables as the program lays them. -/
import Derived.Test.YtpomedigibbeeaaGreatDoorTpt
import Derived.Test.YtpomedigibbeeaaGreatDoorW21
import Derived.Test.YtpomedigibbeeaaGreatDoorCards
import Derived.Test.YtpomedigibbeeaaGreatDoorTie
namespace Go.Proofs.YtpomedigibbeeaaGreatDoor
open Go Go.V
set_option linter.unusedSimpArgs false
set_option linter.unusedVariables false
set_option maxRecDepth 100000
theorem wf_i64 {n:Int} (h:(Lit.int .i64 n).wf=true):i64 n:=by
 have h:(decide (IntKind.i64.min≤n)&&decide (n≤IntKind.i64.max))=true:=h
 rw[Bool.and_eq_true,decide_eq_true_eq,decide_eq_true_eq,show IntKind.i64.min = -9223372036854775808 from rfl,show IntKind.i64.max=9223372036854775807 from rfl]at h
 exact⟨h.1,by omega⟩
theorem Ku:CO Tryz.prog TkM 7 Tryz.f7.params.toList:=by
 intro T args tkn Jh
 rw[show Tryz.f7.params.toList=[22,3,3] from rfl]at Jh
 obtain⟨v,_,rfl,⟨k1,h1⟩,Jh⟩:=fitAll_cons Jh
 obtain⟨va,_,rfl,⟨k2,h2⟩,Jh⟩:=fitAll_cons Jh
 obtain⟨vb,_,rfl,⟨k3,h3⟩,Jh⟩:=fitAll_cons Jh
 obtain rfl:=fitAll_nil Jh
 obtain⟨gs,s,JD⟩:=gJ (MZ (by kernel_rfl) h1)
 obtain⟨a,ha,qa⟩:=HI Tryz.underlying3 (MZ (by kernel_rfl) h2)
 simp only[List.cons.injEq,and_true]at ha
 subst ha
 obtain⟨b,hb,qb⟩:=HI Tryz.underlying3 (MZ (by kernel_rfl) h3)
 simp only[List.cons.injEq,and_true]at hb
 subst hb
 exact nR T T.heap v gs a b s JD (wf_i64 qa) (wf_i64 qb) tkn.tbs
set_option maxRecDepth 100000 in
theorem Rs (os:Os) (started:os.Started) (H:Type) (enc:TypeId × Value→H) :
  ReturnsInHanded {} Tryz.checked os 7 .any (fun w args=>(Rows.topMinoritySpec.pre enc Tryz.prog Tryz.f7 [] false w args∧laidMetH Tryz.prog Rows.topMinorityRow.laid w)∧sizedMet enc Tryz.prog Tryz.f7 (OpenSpec.ofChange Rows.topMinoritySpec) false w args)
   (Rows.topMinoritySpec.post enc Tryz.prog Tryz.f7 false true false false):=
 FE (C:=Tryz.checked) (laid:=Rows.topMinorityRow.laid) jZ started (by kernel_rfl) Tryz.func7
  (ChangeSpec.witness_shaped (enc:=enc) (C:=Tryz.checked) (os:=os) (X:=fun w _=>laidMetH Tryz.prog Rows.topMinorityRow.laid w) false (World.doorLaid Tryz.prog 87 os) #[.slice none 0 0,.int .i64 0,.int .i64 0] 12 rfl (BM os _) (by kernel_rfl) (by kernel_rfl) (by kernel_rfl) (gI os _))
  j0 (by kernel_rfl) (by kernel_rfl) (tb:=4) rfl Tryz.underlying4 rfl (fun ds hd=>by
   have hl:ds.length=3:=hd
   match ds,hl with
   | [d0,d1,d2],_=>rfl) (fun W h=>nT h) Ku
theorem OL:Rows.TopMinoritySaid:=
 OpenClaim.holds_of_wide 7 Tryz.f7 rfl rfl rfl rfl rfl rfl rfl ⟨rfl,rfl,rfl,rfl,rfl⟩ rfl rfl rfl rfl rfl (by kernel_rfl) Tryz.func7 (show joinedFacts Tryz.prog 7 Tryz.f7 Rows.topMinoritySpec Rows.topMinorityRow=true by unfold joinedFacts;rw[Zcw,xt,xr];kernel_rfl)
  (of_decide_eq_true (by kernel_rfl)) (by unfold Func.isWrapper;rw[if_neg (of_decide_eq_false (by kernel_rfl))];exact⟨rfl,rfl⟩)
  (fun os started H enc _=>Rs os started H enc)
theorem PX (f:FuncId) (fn:Func) (hf:Tryz.pinned.checked.prog.funcNamed "conclave/conclavetop.TopMinority" = some f) (oW:Tryz.pinned.checked.prog.funcs[f]? = some fn) :
  false=Tryz.pinned.checked.prog.looks []∧∀(j:Nat) t,fn.params[j]? = some t→Tryz.pinned.checked.prog.wantsStandIn t=false:=by
 obtain rfl:f=7:=Option.some.inj ((show Tryz.prog.funcNamed "conclave/conclavetop.TopMinority" = some 7 by kernel_rfl).symm.trans hf) |>.symm
 obtain rfl:fn=Tryz.f7:=(Option.some.inj (Tryz.func7.symm.trans oW)).symm
 refine⟨by kernel_rfl,fun j t ht=>?_⟩
 have hm:t∈Tryz.f7.params.toList:=by simpa using Array.mem_of_getElem? ht
 have YU:(Tryz.f7.params.toList.all fun u=>!Tryz.prog.wantsStandIn u)=true:=by kernel_rfl
 exact (show Tryz.prog.wantsStandIn t=false by simpa using List.all_eq_true.1 YU t hm)
theorem topMinority_card:Rows.TopMinorityCardSaid:=
 Claim7.holds_tied_plain_at .later [] _ _ _ _ OL (fun _ h=>by cases h) (by kernel_rfl) (fun _ h=>by cases h) topMinority_row_tie rfl ⟨rfl,rfl⟩ (CR (L:=IE.map Char.ofNat) (by kernel_rfl) (by kernel_rfl)) rfl PX (by kernel_rfl)
end Go.Proofs.YtpomedigibbeeaaGreatDoor
