/- LinesShows holds: lines.Show answers what the document says, at every argument, and changes none of them; the tables as the program lays them. -/
import Derived.Test.YthlfaofofaphfaaDoorShr
import Derived.Test.YthlfaofofaphfaaDoorW21
import Derived.Test.YthlfaofofaphfaaDoorCards
import Derived.Test.YthlfaofofaphfaaDoorTie
namespace Go.Proofs.YthlfaofofaphfaaDoor
open Go Go.V
set_option linter.unusedSimpArgs false
set_option linter.unusedVariables false
set_option maxRecDepth 100000
def K3 (h:Hp):Prop:=Words h∧Xk h
theorem Ri {W:World} (h:laidMetH Tryd.prog Rows.linesShowsRow.laid W):K3 W.heap:=⟨Oi h,Og h⟩
theorem Vs (os:Os) (args:Array Value):((World.doorLaid Tryd.prog 87 os).forCall (fun _ _=>0) ⟨#[],args,[]⟩).Shaped Tryd.prog:=World.shaped_of_RefB (by kernel_rfl) (by kernel_rfl)
theorem TM (os:Os) (args:Array Value):laidMetH Tryd.prog Rows.linesShowsRow.laid ((World.doorLaid Tryd.prog 87 os).forCall (fun _ _=>0) ⟨#[],args,[]⟩).memory:=
 laidMetH_of_parts3 (fuel:=8) (laidMet_of_run' 8 (by kernel_rfl) (by kernel_rfl)) (by kernel_rfl) (by kernel_rfl)
theorem Words.ZZ {h h':Hp} (t:Words h) (b:Zg h.size h h'):Words h':=⟨Nat.lt_of_lt_of_le t.1 b.size,fun k hk=>by rw[b.hc t.1];exact t.2 k hk⟩
theorem Xk.ZZ {h h':Hp} (t:Xk h) (b:Zg h.size h h'):Xk h':=by
 obtain⟨e,fr,ht⟩:=t
 exact⟨e,fr,b.get (Zb ht) ht⟩
theorem Vt (l:List Raw):∃(s:List Nat) (i e:Int),Shown l=[YN s,.int .i64 i,.int .i64 e]:=by
 unfold Shown
 split
 ·exact⟨_,_,_,rfl⟩
 ·split
  ·exact⟨_,_,_,rfl⟩
  ·exact⟨_,_,_,rfl⟩
theorem QD:Va Tryd.prog K3 3 Tryd.f3.params.toList:=by
 intro T args HI Yk
 obtain⟨tw,tp⟩:=HI
 rw[show Tryd.f3.params.toList=[22] from rfl]at Yk
 obtain⟨v,_,rfl,⟨k1,h1⟩,Yk⟩:=fitAll_cons Yk
 obtain rfl:=fitAll_nil Yk
 have hv:=SU (by kernel_rfl) h1
 obtain⟨xs,s,ZW,hl⟩:=QM (α:=Raw × Value) (enc:=Yz) (n:=5) (ok:=fun x=>Bs T.heap x.2 x.1.data∧x.1.data.length≤140737488355328) Tryd.underlying22 (by kernel_rfl) (by decide) (fun _=>rfl) (fun k ds RU=>by
  have hlen:ds.length=5:=by
   cases k with
   | zero=>exact RU.elim
   | succ k=>unfold fit at RU;rw[Tryd.underlying34]at RU;exact RU.1
  have hL:=SV (P:=Tryd.prog) (h:=T.heap) 8 k 34 ds (rep 4 [3]++[32]) (by kernel_rfl) (by rw[hlen];decide) RU
  obtain⟨a0,_,rfl,_,_,hL⟩:=XQ Tryd.underlying3 hL
  obtain⟨a1,_,rfl,_,_,hL⟩:=XQ Tryd.underlying3 hL
  obtain⟨a2,_,rfl,_,_,hL⟩:=XQ Tryd.underlying3 hL
  obtain⟨a3,_,rfl,_,_,hL⟩:=XQ Tryd.underlying3 hL
  obtain⟨w,_,k1,rfl,hw,hL⟩:=TA hL
  obtain rfl:=SW hL
  obtain⟨bs,s,hl⟩:=Ty Tryd.underlying32 Tryd.underlying5 (by kernel_rfl) (by kernel_rfl) hw
  exact⟨(⟨a0,a1,a2,a3,bs⟩,w),⟨s,hl⟩,rfl⟩) hv
 have Xx:Tryd.prog.bytesOf 34=56:=by kernel_rfl
 rw[Xx]at hl
 have hx:∀x∈xs,Bs T.heap x.2 x.1.data:=fun x hx=>(ZW x hx).1
 have L2:∀x∈xs,x.1.data.length≤140737488355328:=fun x hx=>(ZW x hx).2
 have hv:Ts Yz 5 T.heap v xs:=⟨s⟩
 have Oh:xs.length≤2513169434916:=by omega
 clear h1 ZW hl s Xx
 generalize T.heap=h at *
 obtain⟨p,c,HJ⟩:=Qi hv
 subst HJ
 refine Ze.Zn (args:=[_]) Tryd.func3 rfl rfl rfl rfl ?_
 simp -implicitDefEqProofs only[go_sem,↓reduceIte]
 refine (Rf T h _ xs hv hx Oh L2).use ?_
 rintro v1 h1 ⟨b1,ys,hr,t1,i1⟩
 have yl:ys.length=xs.length:=by
  have:=congrArg List.length hr
  unfold Zx at this
  simpa using this
 obtain⟨p1,c1,NB⟩:=Qi t1
 subst NB
 simp -implicitDefEqProofs only[go_sem,↓reduceIte]
 refine (R7 T h1 _ ys t1 (fun y hy=>(i1 y hy).bs) (by omega) (tw.ZZ b1) (tp.ZZ b1)).use ?_
 rintro _ h2 ⟨rfl,b2⟩
 rw[hr]
 obtain⟨S,i,e,hS⟩:=Vt (Zx xs)
 rw[hS]
 have B2:Zg h.size h h2:=b1.trans (b2.mono b1.size)
 unfold YN
 simp -implicitDefEqProofs only[go_sem,↓reduceIte]
 refine (Rh T h2 _ xs (hv.ZZ B2) (fun x Uq=>(hx x Uq).ZZ B2) Oh).use ?_
 rintro _ h3 ⟨rfl,b3⟩
 rw[hS]
 unfold YN
 have B3:Zg h.size h h3:=B2.trans (b3.mono B2.size)
 have K4:Zg h1.size h1 h3:=b2.trans (b3.mono b2.size)
 have cs:=Wb T h3 _ _ ys xs (t1.ZZ K4) (hv.ZZ B3) hr (fun y hy=>(i1 y hy).bs.ZZ K4) (fun x Uq=>(hx x Uq).ZZ B3) (by omega)
 simp -implicitDefEqProofs only[go_sem,↓reduceIte]
 refine cs.use ?_
 rintro _ g5 ⟨rfl,b5⟩
 simp -implicitDefEqProofs only[go_sem,↓reduceIte]
 exact B3.trans (b5.mono B3.size)
set_option maxRecDepth 100000 in
theorem X0 (os:Os) (started:os.Started) (H:Type) (enc:TypeId × Value→H) :
  ReturnsInHanded {} Tryd.checked os 3 .any (fun w args=>(Rows.linesShowsSpec.pre enc Tryd.prog Tryd.f3 [] false w args∧laidMetH Tryd.prog Rows.linesShowsRow.laid w)∧sizedMet enc Tryd.prog Tryd.f3 (OpenSpec.ofChange Rows.linesShowsSpec) false w args)
   (Rows.linesShowsSpec.post enc Tryd.prog Tryd.f3 false true false false):=
 UX (C:=Tryd.checked) (laid:=Rows.linesShowsRow.laid) S5 started (by kernel_rfl) Tryd.func3
  (ChangeSpec.witness_shaped (enc:=enc) (C:=Tryd.checked) (os:=os) (X:=fun w _=>laidMetH Tryd.prog Rows.linesShowsRow.laid w) false (World.doorLaid Tryd.prog 87 os) #[.slice none 0 0] 12 rfl (Vs os _) (by kernel_rfl) (by kernel_rfl) (by kernel_rfl) (TM os _))
  S6 (by kernel_rfl) (by kernel_rfl) (tb:=4) rfl Tryd.underlying4 rfl (fun ds hd=>by
   have hl:ds.length=1:=hd
   match ds,hl with
   | [d0],_=>rfl) (fun W h=>Ri h) QD
theorem JD:Rows.LinesShowsSaid:=
 OpenClaim.holds_of_wide 3 Tryd.f3 rfl rfl rfl rfl rfl rfl rfl ⟨rfl,rfl,rfl,rfl,rfl⟩ rfl rfl rfl rfl rfl (by kernel_rfl) Tryd.func3 (show joinedFacts Tryd.prog 3 Tryd.f3 Rows.linesShowsSpec Rows.linesShowsRow=true by unfold joinedFacts;rw[NR,P7,P6];kernel_rfl)
  (of_decide_eq_true (by kernel_rfl)) (by unfold Func.isWrapper;rw[if_neg (of_decide_eq_false (by kernel_rfl))];exact⟨rfl,rfl⟩)
  (fun os started H enc _=>X0 os started H enc)
theorem Jg (f:FuncId) (fn:Func) (hf:Tryd.pinned.checked.prog.funcNamed "conclave/conclavelaw.LinesShows" = some f) (Ro:Tryd.pinned.checked.prog.funcs[f]? = some fn) :
  true=Tryd.pinned.checked.prog.looks []∧∀(j:Nat) t,fn.params[j]? = some t→Tryd.pinned.checked.prog.wantsStandIn t=false:=by
 obtain rfl:f=3:=Option.some.inj ((show Tryd.prog.funcNamed "conclave/conclavelaw.LinesShows" = some 3 by kernel_rfl).symm.trans hf) |>.symm
 obtain rfl:fn=Tryd.f3:=(Option.some.inj (Tryd.func3.symm.trans Ro)).symm
 refine⟨by kernel_rfl,fun j t ht=>?_⟩
 have hm:t∈Tryd.f3.params.toList:=by simpa using Array.mem_of_getElem? ht
 have YF:(Tryd.f3.params.toList.all fun u=>!Tryd.prog.wantsStandIn u)=true:=by kernel_rfl
 exact (show Tryd.prog.wantsStandIn t=false by simpa using List.all_eq_true.1 YF t hm)
theorem linesShows_card:Rows.LinesShowsCardSaid:=
 Claim7.holds_tied_plain_at .later [] _ _ _ _ JD (fun _ h=>by cases h) (by kernel_rfl) (fun _ h=>by cases h) linesShows_row_tie rfl ⟨rfl,rfl⟩ (Vc (L:=QO.map Char.ofNat) (by kernel_rfl) (by kernel_rfl)) rfl Jg (by kernel_rfl)
end Go.Proofs.YthlfaofofaphfaaDoor
