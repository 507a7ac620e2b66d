/- TopForged holds: bytes that are no record of a client's change nothing but the count of such; the tables as the program lays them. -/
import Derived.Test.YtkfhncfkagcamaaGreatDoorTfo
import Derived.Test.YtkfhncfkagcamaaGreatDoorTwf
import Derived.Test.YtkfhncfkagcamaaGreatDoorTpt
import Derived.Test.YtkfhncfkagcamaaGreatDoorW21
import Derived.Test.YtkfhncfkagcamaaGreatDoorCards
import Derived.Test.YtkfhncfkagcamaaGreatDoorTie
namespace Go.Proofs.YtkfhncfkagcamaaGreatDoor
open Go Go.V
set_option linter.unusedSimpArgs false
set_option linter.unusedVariables false
set_option maxRecDepth 100000
theorem qi {h:Hp} {k:Nat} {v:Value} (hv:fit Tryz.prog h k 44 [v]):∃ds,Ts vY 1 h v ds∧∀d∈ds,Bs h d.1 d.2∧WO d.1:=by
 obtain⟨ds,s,Jk,_⟩:=Oq (α:=Dat) (enc:=vY) (n:=1) (ok:=fun d=>Bs h d.1 d.2∧WO d.1) Tryz.underlying44 (by kernel_rfl) (by decide) (fun _=>rfl) (fun k ds CG=>by
  have hw:∃w,ds=[w]:=by
   cases k with
   | zero=>exact CG.elim
   | succ k=>
    unfold fit at CG
    rw[Tryz.underlying34]at CG
    obtain⟨p,len,cap,e,_⟩:=CG
    exact⟨_,e⟩
  obtain⟨w,rfl⟩:=hw
  obtain⟨bs,s,hl⟩:=fm Tryz.underlying34 Tryz.underlying5 (by kernel_rfl) (by kernel_rfl) CG
  exact⟨(w,bs),⟨s,sA Tryz.underlying34 CG⟩,rfl⟩) hv
 exact⟨ds,⟨s⟩,Jk⟩
theorem FB:Ls Tryz.prog TkM 4 Tryz.f4.params.toList:=by
 intro T args tkn Xr
 rw[show Tryz.f4.params.toList=[22,44,3] from rfl]at Xr
 obtain⟨v,_,rfl,⟨k1,h1⟩,Xr⟩:=fitAll_cons Xr
 obtain⟨u,_,rfl,⟨k2,h2⟩,Xr⟩:=fitAll_cons Xr
 obtain⟨va,_,rfl,⟨k3,h3⟩,Xr⟩:=fitAll_cons Xr
 obtain rfl:=fitAll_nil Xr
 obtain⟨gs,s,Jk⟩:=O1 (TK (by kernel_rfl) h1)
 obtain⟨ds,t,hd⟩:=qi (TK (by kernel_rfl) h2)
 obtain⟨a,ha,qa⟩:=Gg Tryz.underlying3 (TK (by kernel_rfl) h3)
 simp only[List.cons.injEq,and_true]at ha
 subst ha
 exact jh T T.heap v u gs ds a s Jk t hd (Zbo qa) tkn.tbs
set_option maxRecDepth 100000 in
theorem O9 (os:Os) (started:os.Started) (H:Type) (enc:TypeId × Value→H) :
  ReturnsInHanded {} Tryz.checked os 4 .any (fun w args=>(Rows.topForgedSpec.pre enc Tryz.prog Tryz.f4 [] false w args∧laidMetH Tryz.prog Rows.topForgedRow.laid w)∧sizedMet enc Tryz.prog Tryz.f4 (OpenSpec.ofChange Rows.topForgedSpec) false w args)
   (Rows.topForgedSpec.post enc Tryz.prog Tryz.f4 false true false false):=
 TO (C:=Tryz.checked) (laid:=Rows.topForgedRow.laid) Lw started (by kernel_rfl) Tryz.func4
  (ChangeSpec.witness_shaped (enc:=enc) (C:=Tryz.checked) (os:=os) (X:=fun w _=>laidMetH Tryz.prog Rows.topForgedRow.laid w) false (World.doorLaid Tryz.prog 87 os) #[.slice none 0 0,.slice none 0 0,.int .i64 0] 12 rfl (RH os _) (by kernel_rfl) (by kernel_rfl) (by kernel_rfl) (O0 os _))
  Lx (by kernel_rfl) (by kernel_rfl) (tb:=4) rfl Tryz.underlying4 rfl (fun ds hd=>by
   have hl:ds.length=3:=hd
   match ds,hl with
   | [d0,d1,d2],_=>rfl) (fun W h=>KT h) FB
theorem KW:Rows.TopForgedSaid:=
 OpenClaim.holds_of_wide 4 Tryz.f4 rfl rfl rfl rfl rfl rfl rfl ⟨rfl,rfl,rfl,rfl,rfl⟩ rfl rfl rfl rfl rfl (by kernel_rfl) Tryz.func4 (show joinedFacts Tryz.prog 4 Tryz.f4 Rows.topForgedSpec Rows.topForgedRow=true by unfold joinedFacts;rw[lU,BR,BQ];kernel_rfl)
  (of_decide_eq_true (by kernel_rfl)) (by unfold Func.isWrapper;rw[if_neg (of_decide_eq_false (by kernel_rfl))];exact⟨rfl,rfl⟩)
  (fun os started H enc _=>O9 os started H enc)
theorem Mv (f:FuncId) (fn:Func) (hf:Tryz.pinned.checked.prog.funcNamed "conclave/conclavetop.TopForged" = some f) (dO:Tryz.pinned.checked.prog.funcs[f]? = some fn) :
  false=Tryz.pinned.checked.prog.looks []∧∀(j:Nat) t,fn.params[j]? = some t→Tryz.pinned.checked.prog.wantsStandIn t=false:=by
 obtain rfl:f=4:=Option.some.inj ((show Tryz.prog.funcNamed "conclave/conclavetop.TopForged" = some 4 by kernel_rfl).symm.trans hf) |>.symm
 obtain rfl:fn=Tryz.f4:=(Option.some.inj (Tryz.func4.symm.trans dO)).symm
 refine⟨by kernel_rfl,fun j t ht=>?_⟩
 have hm:t∈Tryz.f4.params.toList:=by simpa using Array.mem_of_getElem? ht
 have YH:(Tryz.f4.params.toList.all fun u=>!Tryz.prog.wantsStandIn u)=true:=by kernel_rfl
 exact (show Tryz.prog.wantsStandIn t=false by simpa using List.all_eq_true.1 YH t hm)
theorem topForged_card:Rows.TopForgedCardSaid:=
 Claim7.holds_tied_plain_at .later [] _ _ _ _ KW (fun _ h=>by cases h) (by kernel_rfl) (fun _ h=>by cases h) topForged_row_tie rfl ⟨rfl,rfl⟩ (Rv (L:=Sz.map Char.ofNat) (by kernel_rfl) (by kernel_rfl)) rfl Mv (by kernel_rfl)
end Go.Proofs.YtkfhncfkagcamaaGreatDoor
