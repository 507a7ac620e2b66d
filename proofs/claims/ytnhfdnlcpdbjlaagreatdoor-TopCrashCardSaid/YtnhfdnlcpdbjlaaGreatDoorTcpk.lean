/- TopCrash holds: when all have crashed nothing that was done is lost: it is done again, in its order; the tables as the program lays them. -/
import Derived.Test.YtnhfdnlcpdbjlaaGreatDoorTpt
import Derived.Test.YtnhfdnlcpdbjlaaGreatDoorW21
import Derived.Test.YtnhfdnlcpdbjlaaGreatDoorCards
import Derived.Test.YtnhfdnlcpdbjlaaGreatDoorTie
open Go.Proofs.Tryz renaming prog→c,checked→d,f3→e,underlying3→i,func3→k
namespace Go.Proofs.YtnhfdnlcpdbjlaaGreatDoor
open Go Go.V
set_option linter.all false
set_option maxRecDepth 100000
theorem dG:gd c TkM 3 Tryz.f3.params.toList:=by
 intro T args tkn QG;rw[show Tryz.f3.params.toList=[22,3,3] from rfl]at QG;obtain⟨v,_,rfl,⟨k1,h1⟩,QG⟩:=fitAll_cons QG;obtain⟨va,_,rfl,⟨k2,h2⟩,QG⟩:=fitAll_cons QG;obtain⟨vb,_,rfl,⟨k3,h3⟩,QG⟩:=fitAll_cons QG;obtain rfl:=fitAll_nil QG;obtain⟨gs,s,QZ⟩:=sJ (HT sV h1);obtain⟨a,ha,qa⟩:=Cb i (HT sV h2);simp only[List.cons.injEq,and_true]at ha;subst ha;obtain⟨b,hb,qb⟩:=Cb i (HT sV h3);simp only[List.cons.injEq,and_true]at hb;subst hb;exact sH T T.heap v gs a b s QZ (ZaV qa) (ZaV qb) tkn.tbs
set_option maxRecDepth 100000 in
theorem IY(os:Os)(started:os.Started)(H:Type)(enc:TypeId × Value->H):
  ReturnsInHanded {} d os 3 .any (fun w args=>(Rows.topCrashSpec.pre enc c e [] false w args/\laidMetH c Rows.topCrashRow.laid w)/\sizedMet enc c e (OpenSpec.ofChange Rows.topCrashSpec) false w args)
   (Rows.topCrashSpec.post enc c e false true false false):=
 Az (C:=d) (laid:=Rows.topCrashRow.laid) vQ started sV k
  (ChangeSpec.witness_shaped (enc:=enc) (C:=d) (os:=os) (X:=fun w _=>laidMetH c Rows.topCrashRow.laid w) false (World.doorLaid c 87 os) #[.slice none 0 0,.int .i64 0,.int .i64 0] 12 rfl (iA os _) sV sV sV (sI os _))
  vS sV sV (tb:=4) rfl Tryz.underlying4 rfl (fun ds hd=>by
   have hl:(List.length ds)=3:=hd
   match ds,hl with
   | [d0,d1,d2],_=>rfl) (fun W h=>ZaW h) dG
theorem EA:Rows.TopCrashSaid:=
 OpenClaim.holds_of_wide 3 e rfl rfl rfl rfl rfl rfl rfl ⟨rfl,rfl,rfl,rfl,rfl⟩ rfl rfl rfl rfl rfl sV k (show joinedFacts c 3 e Rows.topCrashSpec Rows.topCrashRow=true by unfold joinedFacts;rw[Zj7,ZfZ,ZfY];kernel_rfl)
  (of_decide_eq_true sV) (by unfold Func.isWrapper;rw[if_neg (of_decide_eq_false sV)];exact⟨rfl,rfl⟩)
  (fun os started H enc _=>IY os started H enc)
theorem FS(f:FuncId)(fn:Func)(hf:Tryz.pinned.checked.prog.funcNamed "conclave/conclavetop.TopCrash" = some f)(hfn:Tryz.pinned.checked.prog.funcs[f]? = some fn):
  false=Tryz.pinned.checked.prog.looks []/\∀(j:Nat) t,fn.params[j]? = some t->Tryz.pinned.checked.prog.wantsStandIn t=false:=by
 obtain rfl:f=3:=Option.some.inj ((show Tryz.prog.funcNamed "conclave/conclavetop.TopCrash" = some 3 by kernel_rfl).symm.trans hf) |>.symm
 obtain rfl:fn=e:=(Option.some.inj (Tryz.func3.symm.trans hfn)).symm;refine⟨sV,fun j t ht=>?_⟩;have hm:t∈Tryz.f3.params.toList:=by simpa using Array.mem_of_getElem? ht
 have XT:(Tryz.f3.params.toList.all fun u=>!Tryz.prog.wantsStandIn u)=true:=sV;exact (show Tryz.prog.wantsStandIn t=false by simpa using List.all_eq_true.1 XT t hm)
theorem topCrash_card:Rows.TopCrashCardSaid:=
 Claim7.holds_tied_plain_at .later [] _ _ _ _ EA (fun _ h=>by cases h) sV (fun _ h=>by cases h) topCrash_row_tie rfl ⟨rfl,rfl⟩ (gh (L:=EW.map Char.ofNat) sV sV) rfl FS sV
end Go.Proofs.YtnhfdnlcpdbjlaaGreatDoor
