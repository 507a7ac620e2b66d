/- TopClients holds: two clients that send the same Seq are both done; the tables as the program lays them. -/
import Derived.Test.YthlfaofofaphfaaGreatDoorTpt
import Derived.Test.YthlfaofofaphfaaGreatDoorW21
import Derived.Test.YthlfaofofaphfaaGreatDoorCards
import Derived.Test.YthlfaofofaphfaaGreatDoorTie
open Go.Value renaming int→m
open Go.IntKind renaming i64→l
open Go.Proofs.Tryz renaming underlying3→i,prog→o,checked→p,f4→r,func4→x
open List renaming length→s
namespace Go.Proofs.YthlfaofofaphfaaGreatDoor
open Go Go.V
set_option linter.unusedSimpArgs false
set_option linter.unusedVariables false
set_option maxRecDepth 100000
theorem Za2{h:Hp}{k:Nat}{v:Value}(hv:Cs o h k 23 v):∃a b c d e,v=.agg (cL a b c d e).toArray/\i64 a/\i64 b/\i64 c/\i64 d/\i64 e:=by
 obtain⟨cs,rfl,hfe⟩:=vG uf hv;have hlen:(s cs)=5:=by
  cases k with
  | zero=>exact hfe.elim
  | succ k=>unfold fit at hfe;rw[Tryz.underlying23]at hfe;exact hfe.1
 have hL:=vI (P:=o) (h:=h) 8 k 23 cs (rep 5 [3]) uf (by rw[hlen];decide) hfe;obtain⟨a0,_,rfl,q0,p0,hL⟩:=PD i hL;obtain⟨a1,_,rfl,q1,p1,hL⟩:=PD i hL;obtain⟨a2,_,rfl,q2,p2,hL⟩:=PD i hL;obtain⟨a3,_,rfl,q3,p3,hL⟩:=PD i hL;obtain⟨a4,_,rfl,q4,p4,hL⟩:=PD i hL;obtain rfl:=vJ hL;have mk:∀n:Int,-9223372036854775808<=n->n<=9223372036854775807->i64 n:=fun n h1 h2=>⟨h1,nc⟩
 exact⟨a0,a1,a2,a3,a4,rfl,mk _ q0 p0,mk _ q1 p1,mk _ q2 p2,mk _ q3 p3,mk _ q4 p4⟩
theorem ER:gj o TkM 4 Tryz.f4.params.toList:=by
 intro T args tkn Qg;rw[show Tryz.f4.params.toList=[23,3,3,3,3] from rfl]at Qg;obtain⟨v,_,rfl,⟨k1,h1⟩,Qg⟩:=fitAll_cons Qg;obtain⟨u1,_,rfl,⟨k2,h2⟩,Qg⟩:=fitAll_cons Qg;obtain⟨u2,_,rfl,⟨k3,h3⟩,Qg⟩:=fitAll_cons Qg;obtain⟨u3,_,rfl,⟨k4,h4⟩,Qg⟩:=fitAll_cons Qg;obtain⟨u4,_,rfl,⟨k5,h5⟩,Qg⟩:=fitAll_cons Qg;obtain rfl:=fitAll_nil Qg;obtain⟨a,b,c,d,e,rfl,wa,wb,wc,wd,we⟩:=Za2 h1;obtain⟨l1,hl,q1⟩:=MH i (MI uf h2);simp only[List.cons.injEq,and_true]at hl;subst hl;obtain⟨l2,hl,q2⟩:=MH i (MI uf h3);simp only[List.cons.injEq,and_true]at hl;subst hl;obtain⟨l3,hl,q3⟩:=MH i (MI uf h4);simp only[List.cons.injEq,and_true]at hl;subst hl;obtain⟨l4,hl,q4⟩:=MH i (MI uf h5);simp only[List.cons.injEq,and_true]at hl;subst hl;exact Zef T T.heap a b c d e l1 l2 l3 l4 wa wb wc wd we (BU q1) (BU q2) (BU q3) (BU q4) tkn.tbs
set_option maxRecDepth 100000 in
theorem LS(os:Os)(started:os.Started)(H:Type)(enc:TypeId × Value->H):
  ReturnsInHanded {} p os 4 .any (fun w args=>(Rows.topClientsSpec.pre enc o r [] false w args/\laidMetH o Rows.topClientsRow.laid w)/\sizedMet enc o r (OpenSpec.ofChange Rows.topClientsSpec) false w args)
   (Rows.topClientsSpec.post enc o r false true false false):=
 AP (C:=p) (laid:=Rows.topClientsRow.laid) wu started uf x
  (ChangeSpec.witness_shaped (enc:=enc) (C:=p) (os:=os) (X:=fun w _=>laidMetH o Rows.topClientsRow.laid w) false (World.doorLaid o 87 os) #[.agg #[m l 0,m l 0,m l 0,m l 0,m l 0],m l 0,m l 0,m l 0,m l 0] 12 rfl (iC os _) uf uf uf (tj os _))
  ww uf uf (tb:=4) rfl Tryz.underlying4 rfl (fun ds hd=>by
   have hl:(s ds)=5:=hd
   match ds,hl with
   | [d0,d1,d2,d3,d4],_=>rfl) (fun W h=>Za1 h) ER
theorem Hh:Rows.TopClientsSaid:=
 OpenClaim.holds_of_wide 4 r rfl rfl rfl rfl rfl rfl rfl ⟨rfl,rfl,rfl,rfl,rfl⟩ rfl rfl rfl rfl rfl uf x (show joinedFacts o 4 r Rows.topClientsSpec Rows.topClientsRow=true by unfold joinedFacts;rw[Zki,ZfX,ZfW];kernel_rfl)
  (of_decide_eq_true uf) (by unfold Func.isWrapper;rw[if_neg (of_decide_eq_false uf)];exact⟨rfl,rfl⟩)
  (fun os started H enc _=>LS os started H enc)
theorem KR(f:FuncId)(fn:Func)(hf:Tryz.pinned.checked.prog.funcNamed "conclave/conclavetop.TopClients" = some f)(hfn:Tryz.pinned.checked.prog.funcs[f]? = some fn):
  false=Tryz.pinned.checked.prog.looks []/\∀(j:Nat) t,fn.params[j]? = some t->Tryz.pinned.checked.prog.wantsStandIn t=false:=by
 obtain rfl:f=4:=Option.some.inj ((show Tryz.prog.funcNamed "conclave/conclavetop.TopClients" = some 4 by kernel_rfl).symm.trans hf) |>.symm
 obtain rfl:fn=r:=(Option.some.inj (Tryz.func4.symm.trans hfn)).symm;refine⟨uf,fun j t ht=>?_⟩;have hm:t∈Tryz.f4.params.toList:=by simpa using Array.mem_of_getElem? ht
 have XY:(Tryz.f4.params.toList.all fun u=>!Tryz.prog.wantsStandIn u)=true:=uf;exact (show Tryz.prog.wantsStandIn t=false by simpa using List.all_eq_true.1 XY t hm)
theorem topClients_card:Rows.TopClientsCardSaid:=
 Claim7.holds_tied_plain_at .later [] _ _ _ _ Hh (fun _ h=>by cases h) uf (fun _ h=>by cases h) topClients_row_tie rfl ⟨rfl,rfl⟩ (gn (L:=Df.map Char.ofNat) uf uf) rfl KR uf
end Go.Proofs.YthlfaofofaphfaaGreatDoor
