/- TopTold holds: what was told was done, in the order in which all was done; the tables as the program lays them. -/
import Derived.Test.YtkhkmpfenaipaaaGreatDoorTpt
import Derived.Test.YtkhkmpfenaipaaaGreatDoorW21
import Derived.Test.YtkhkmpfenaipaaaGreatDoorCards
import Derived.Test.YtkhkmpfenaipaaaGreatDoorTie
open Go.Proofs.Tryz renaming prog→b,checked→c,f5→d,func5→e
namespace Go.Proofs.YtkhkmpfenaipaaaGreatDoor
open Go Go.V
set_option linter.all false
set_option maxRecDepth 100000
theorem qv:lP b TkM 5 Tryz.f5.params.toList:=by
 intro T args g f;rw[show Tryz.f5.params.toList=[22,3] from rfl]at f;obtain⟨v,_,rfl,⟨p,k⟩,f⟩:=fitAll_cons f;obtain⟨n,_,rfl,⟨o,j⟩,f⟩:=fitAll_cons f;obtain rfl:=fitAll_nil f;let⟨l,s,m⟩:=zD (eG zI k);let⟨a,h,i⟩:=qM Tryz.underlying3 (eG zI j);simp only[List.cons.injEq,and_true]at h;subst h;exact ZeV T T.heap v l a s m (Zmq i) g.tbs
set_option maxRecDepth 100000 in
theorem Ch(os:Os)(started:os.Started)(H:Type)(enc:TypeId × Value->H):
  ReturnsInHanded {} c os 5 .any (fun w args=>(Rows.topToldSpec.pre enc b d [] false w args/\laidMetH b Rows.topToldRow.laid w)/\sizedMet enc b d (OpenSpec.ofChange Rows.topToldSpec) false w args)
   (Rows.topToldSpec.post enc b d false true false false):=
 fm (C:=c) (laid:=Rows.topToldRow.laid) Zbq started zI e
  (ChangeSpec.witness_shaped (enc:=enc) (C:=c) (os:=os) (X:=fun w _=>laidMetH b Rows.topToldRow.laid w) false (World.doorLaid b 87 os) #[.slice none 0 0,.int .i64 0] 12 rfl (np os _) zI zI zI (zC os _))
  Zbr zI zI (tb:=4) rfl Tryz.underlying4 rfl (fun a g=>by
   have f:(List.length a)=2:=g
   match a,f with
   | [d0,d1],_=>rfl) (fun W h=>ZeW h) qv
theorem di:Rows.TopToldSaid:=
 OpenClaim.holds_of_wide 5 d rfl rfl rfl rfl rfl rfl rfl ⟨rfl,rfl,rfl,rfl,rfl⟩ rfl rfl rfl rfl rfl zI e (show joinedFacts b 5 d Rows.topToldSpec Rows.topToldRow=true by unfold joinedFacts;rw[ZoI,Zkg,Zkf];kernel_rfl)
  (of_decide_eq_true zI) (by unfold Func.isWrapper;rw[if_neg (of_decide_eq_false zI)];exact⟨rfl,rfl⟩)
  (fun os started H enc _=>Ch os started H enc)
theorem Bi(f:FuncId)(fn:Func)(i:Tryz.pinned.checked.prog.funcNamed "conclave/conclavetop.TopTold" = some f)(a:Tryz.pinned.checked.prog.funcs[f]? = some fn):
  false=Tryz.pinned.checked.prog.looks []/\∀(j:Nat) t,fn.params[j]? = some t->Tryz.pinned.checked.prog.wantsStandIn t=false:=by
 obtain rfl:f=5:=aag ((show Tryz.prog.funcNamed "conclave/conclavetop.TopTold" = some 5 by kernel_rfl).symm.trans i) |>.symm
 obtain rfl:fn=d:=(aag (Tryz.func5.symm.trans a)).symm;refine⟨zI,fun j t g=>?_⟩;have h:t∈Tryz.f5.params.toList:=by simpa using Array.mem_of_getElem? g
 have k:(Tryz.f5.params.toList.all fun u=>!Tryz.prog.wantsStandIn u)=true:=zI;exact (show Tryz.prog.wantsStandIn t=false by simpa using List.all_eq_true.1 k t h)
theorem topTold_card:Rows.TopToldCardSaid:=
 Claim7.holds_tied_plain_at .later [] _ _ _ _ di (fun _ h=>by cases h) zI (fun _ h=>by cases h) topTold_row_tie rfl ⟨rfl,rfl⟩ (lU (L:=BJ.map Char.ofNat) zI zI) rfl Bi zI
