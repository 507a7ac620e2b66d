/- The tables, as the program lays them; a script's gears as an argument. -/
import Derived.Test.YtboeoomhjbcecaaGreatDoorTpc
import Derived.Test.YtboeoomhjbcecaaGreatDoorTab
import Derived.LaidSub
namespace Go.Proofs.YtboeoomhjbcecaaGreatDoor
open Go Go.V
set_option linter.unusedSimpArgs false
set_option linter.unusedVariables false
set_option maxRecDepth 100000
def TkM (h:Hp):Prop:=Tk h∧Dh 1 niv T5 h
theorem TkM.tbs {h:Hp} (t:TkM h):BA SI h:=⟨t.1,t.2,rfl,rfl⟩
theorem tp {W:World} (h:laidMetH Tryz.prog [("conclave/sha.numbers", Rows.laid_conclave_sha_numbers),("conclave/order.need", Rows.laid_conclave_order_need)] W):TkM W.heap:=by
 constructor
 ·have h1:=h.filter (fun x=>x.1 == "conclave/sha.numbers")
  exact ZbV h1
 ·have h1:=h.filter (fun x=>x.1 == "conclave/order.need")
  exact vV h1
theorem kL (os:Os) (args:Array Value):laidMetH Tryz.prog [("conclave/sha.numbers", Rows.laid_conclave_sha_numbers),("conclave/order.need", Rows.laid_conclave_order_need)] ((World.doorLaid Tryz.prog 87 os).forCall (fun _ _=>0) ⟨#[],args,[]⟩).memory:=
 laidMetH_of_parts3 (fuel:=8) (laidMet_of_run' 8 (by kernel_rfl) (by kernel_rfl)) (by kernel_rfl) (by kernel_rfl)
theorem kM {h:Hp} {k:Nat} {v:Value} (hv:fit Tryz.prog h k 22 [v]):∃gs,Ts Gr.C 5 h v gs∧∀g∈gs,g.ok:=by
 obtain⟨gs,s,J2,_⟩:=gS (α:=Gr) (enc:=Gr.C) (n:=5) (ok:=fun g=>g.ok) Tryz.underlying22 (by kernel_rfl) (by decide) (fun _=>rfl) (fun k ds hfe=>by
  have hlen:ds.length=5:=by
   cases k with
   | zero=>exact hfe.elim
   | succ k=>unfold fit at hfe;rw[Tryz.underlying61]at hfe;exact hfe.1
  have hL:=nu (P:=Tryz.prog) (h:=h) 8 k 61 ds (rep 5 [3]) (by kernel_rfl) (by rw[hlen];decide) hfe;obtain⟨a0,_,rfl,q0,p0,hL⟩:=Sf Tryz.underlying3 hL;obtain⟨a1,_,rfl,q1,p1,hL⟩:=Sf Tryz.underlying3 hL;obtain⟨a2,_,rfl,q2,p2,hL⟩:=Sf Tryz.underlying3 hL;obtain⟨a3,_,rfl,q3,p3,hL⟩:=Sf Tryz.underlying3 hL;obtain⟨a4,_,rfl,q4,p4,hL⟩:=Sf Tryz.underlying3 hL;obtain rfl:=nw hL;have mk:∀n:Int,-9223372036854775808≤n→n≤9223372036854775807→i64 n:=fun n h1 h2=>⟨h1,by omega⟩
  exact⟨⟨a0,a1,a2,a3,a4⟩,⟨⟨mk _ q0 p0,mk _ q1 p1⟩,mk _ q2 p2,mk _ q3 p3,mk _ q4 p4⟩,rfl⟩) hv
 exact⟨gs,⟨s⟩,J2⟩
end Go.Proofs.YtboeoomhjbcecaaGreatDoor
