/- TopRevoked holds: who was revoked can do nothing more; the tables as the program lays them. -/
import Derived.Test.YtdapjaalaomghaaGreatDoorTpt
import Derived.Test.YtdapjaalaomghaaGreatDoorW21
import Derived.Test.YtdapjaalaomghaaGreatDoorCards
import Derived.Test.YtdapjaalaomghaaGreatDoorTie
open Go.Value renaming int→o
open Go.IntKind renaming i64→l
open Go.Proofs.Tryz renaming underlying3→i,prog→m,checked→p,f3→r,func3→x
open List renaming length→s
namespace Go.Proofs.YtdapjaalaomghaaGreatDoor
open Go Go.V
set_option linter.all false
set_option maxRecDepth 100000
theorem ZbC{h:Hp}{k:Nat}{v:Value}(hv:CR m h k 23 v):∃a b c d e,v=.agg (dB a b c d e).toArray/\i64 a/\i64 b/\i64 c/\i64 d/\i64 e:=by
 obtain⟨cs,rfl,hfe⟩:=ww uj hv;have hlen:(s cs)=5:=by
  cases k with
  | zero=>exact hfe.elim
  | succ k=>unfold fit at hfe;rw[Tryz.underlying23]at hfe;exact hfe.1
 have hL:=wE (P:=m) (h:=h) 8 k 23 cs (rep 5 [3]) uj (by rw[hlen];decide) hfe;obtain⟨a0,_,rfl,q0,p0,hL⟩:=Oe i hL;obtain⟨a1,_,rfl,q1,p1,hL⟩:=Oe i hL;obtain⟨a2,_,rfl,q2,p2,hL⟩:=Oe i hL;obtain⟨a3,_,rfl,q3,p3,hL⟩:=Oe i hL;obtain⟨a4,_,rfl,q4,p4,hL⟩:=Oe i hL;obtain rfl:=wF hL;have mk:∀n:Int,-9223372036854775808<=n->n<=9223372036854775807->i64 n:=fun n h1 h2=>⟨h1,nT⟩
 exact⟨a0,a1,a2,a3,a4,rfl,mk _ q0 p0,mk _ q1 p1,mk _ q2 p2,mk _ q3 p3,mk _ q4 p4⟩
theorem Df:hU m TkM 3 Tryz.f3.params.toList:=by
 intro T args tkn QR;rw[show Tryz.f3.params.toList=[23,3,3] from rfl]at QR;obtain⟨v,_,rfl,⟨k1,h1⟩,QR⟩:=fitAll_cons QR;obtain⟨u1,_,rfl,⟨k2,h2⟩,QR⟩:=fitAll_cons QR;obtain⟨u2,_,rfl,⟨k3,h3⟩,QR⟩:=fitAll_cons QR;obtain rfl:=fitAll_nil QR;obtain⟨a,b,c,d,e,rfl,wa,wb,wc,wd,we⟩:=ZbC h1;obtain⟨l1,hl,q1⟩:=CS i (af uj h2);simp only[List.cons.injEq,and_true]at hl;subst hl;obtain⟨l2,hl,q2⟩:=CS i (af uj h3);simp only[List.cons.injEq,and_true]at hl;subst hl;exact ZeO T T.heap a b c d e l1 l2 wa wb wc wd we (ZbA q1) (ZbA q2) tkn.tbs
set_option maxRecDepth 100000 in
theorem Ke(os:Os)(started:os.Started)(H:Type)(enc:TypeId × Value->H):
  ReturnsInHanded {} p os 3 .any (fun w args=>(Rows.topRevokedSpec.pre enc m r [] false w args/\laidMetH m Rows.topRevokedRow.laid w)/\sizedMet enc m r (OpenSpec.ofChange Rows.topRevokedSpec) false w args)
   (Rows.topRevokedSpec.post enc m r false true false false):=
 ar (C:=p) (laid:=Rows.topRevokedRow.laid) xp started uj x
  (ChangeSpec.witness_shaped (enc:=enc) (C:=p) (os:=os) (X:=fun w _=>laidMetH m Rows.topRevokedRow.laid w) false (World.doorLaid m 87 os) #[.agg #[o l 0,o l 0,o l 0,o l 0,o l 0],o l 0,o l 0] 12 rfl (jh os _) uj uj uj (ub os _))
  xq uj uj (tb:=4) rfl Tryz.underlying4 rfl (fun ds hd=>by
   have hl:(s ds)=3:=hd
   match ds,hl with
   | [d0,d1,d2],_=>rfl) (fun W h=>ZbB h) Df
theorem Hz:Rows.TopRevokedSaid:=
 OpenClaim.holds_of_wide 3 r rfl rfl rfl rfl rfl rfl rfl ⟨rfl,rfl,rfl,rfl,rfl⟩ rfl rfl rfl rfl rfl uj x (show joinedFacts m 3 r Rows.topRevokedSpec Rows.topRevokedRow=true by unfold joinedFacts;rw[Zk5,ZgB,ZgA];kernel_rfl)
  (of_decide_eq_true uj) (by unfold Func.isWrapper;rw[if_neg (of_decide_eq_false uj)];exact⟨rfl,rfl⟩)
  (fun os started H enc _=>Ke os started H enc)
theorem Ih(f:FuncId)(fn:Func)(hf:Tryz.pinned.checked.prog.funcNamed "conclave/conclavetop.TopRevoked" = some f)(hfn:Tryz.pinned.checked.prog.funcs[f]? = some fn):
  false=Tryz.pinned.checked.prog.looks []/\∀(j:Nat) t,fn.params[j]? = some t->Tryz.pinned.checked.prog.wantsStandIn t=false:=by
 obtain rfl:f=3:=Option.some.inj ((show Tryz.prog.funcNamed "conclave/conclavetop.TopRevoked" = some 3 by kernel_rfl).symm.trans hf) |>.symm
 obtain rfl:fn=r:=(Option.some.inj (Tryz.func3.symm.trans hfn)).symm;refine⟨uj,fun j t ht=>?_⟩;have hm:t∈Tryz.f3.params.toList:=by simpa using Array.mem_of_getElem? ht
 have Jc:(Tryz.f3.params.toList.all fun u=>!Tryz.prog.wantsStandIn u)=true:=uj;exact (show Tryz.prog.wantsStandIn t=false by simpa using List.all_eq_true.1 Jc t hm)
theorem topRevoked_card:Rows.TopRevokedCardSaid:=
 Claim7.holds_tied_plain_at .later [] _ _ _ _ Hz (fun _ h=>by cases h) uj (fun _ h=>by cases h) topRevoked_row_tie rfl ⟨rfl,rfl⟩ (ie (L:=Dy.map Char.ofNat) uj uj) rfl Ih uj
end Go.Proofs.YtdapjaalaomghaaGreatDoor
