/- TopScripts holds: a script may be told as lines; the tables as the program lays them. -/
import Derived.Test.YtdpjmhgbmhjniaaGreatDoorTpt
import Derived.Test.YtdpjmhgbmhjniaaGreatDoorCards
import Derived.Test.YtdpjmhgbmhjniaaGreatDoorTie
open Go.Proofs.Tryz renaming prog→c,underlying95→d,checked→e,f7→i,func7→l
namespace Go.Proofs.YtdpjmhgbmhjniaaGreatDoor
open Go Go.V
set_option linter.all false
set_option maxRecDepth 100000
def LTs(h:Hp):Prop:=TkM h/\(Words h/\Tv h)/\Gq h/\Ra 4 h/\Ra 5 h
theorem Zs7:Tryz.prog.globalNamed "strconv.ErrSyntax" = some 4:=po
theorem ZjM:(Tryz.prog.globals[4]?).map (·.type)=some 95:=po
theorem Zs8:Tryz.prog.globalNamed "strconv.ErrRange" = some 5:=po
theorem ZjN:(Tryz.prog.globals[5]?).map (·.type)=some 95:=po
theorem Zex{W:World}(h:laidMetH c Rows.topScriptsRow.laid W):Ra 4 W.heap:=by
 rw[Go.MakeChecks.laidMetH_plain _ _ _ po]at h;have h2:=h.filter (fun x=>x.1 == "strconv.ErrSyntax")
 rw[show (Rows.topScriptsRow.laid.filter fun x=>x.1 == "strconv.ErrSyntax")=[("strconv.ErrSyntax", Rows.laid_strconv_ErrSyntax)] from rfl]at h2
 exact gW Zs7 ZjM d h2
theorem Zey{W:World}(h:laidMetH c Rows.topScriptsRow.laid W):Ra 5 W.heap:=by
 rw[Go.MakeChecks.laidMetH_plain _ _ _ po]at h;have h2:=h.filter (fun x=>x.1 == "strconv.ErrRange")
 rw[show (Rows.topScriptsRow.laid.filter fun x=>x.1 == "strconv.ErrRange")=[("strconv.ErrRange", Rows.laid_strconv_ErrRange)] from rfl]at h2
 exact gW Zs8 ZjN d h2
theorem Zez{W:World}(h:W.ShapedOpen c):Gq W.heap:=by
 obtain⟨m,hm⟩:=cell_of_shapedOpen_int (k:=.i64) (g:=3) (t:=3) (zero:=#[.int .i64 0]) h (of_decide_eq_true po) po rfl po po Tryz.underlying3;exact⟨m,hm⟩
theorem ZeA{W:World}(h:laidMetH c Rows.topScriptsRow.laid W):TkM W.heap:=by
 rw[Go.MakeChecks.laidMetH_plain _ _ _ po]at h
 constructor
 .have h1:=h.filter (fun x=>x.1 == "conclave/sha.numbers")
  exact Zdi h1
 .have h1:=h.filter (fun x=>x.1 == "conclave/order.need")
  exact yk h1
theorem Gy:Ec c LTs 7 Tryz.f7.params.toList:=by
 intro T args tkn JL;obtain⟨tk,⟨tw,tp⟩,tm,t1,t2⟩:=tkn;rw[show Tryz.f7.params.toList=[22] from rfl]at JL;obtain⟨v,_,rfl,⟨k1,h1⟩,JL⟩:=fitAll_cons JL;obtain rfl:=fitAll_nil JL;obtain⟨gs,s,XM⟩:=mB (oS po h1);exact eh T T.heap v gs s XM tk.tbs tw tp tm t1 t2
theorem ew(W:World)(h:laidMetH c Rows.topScriptsRow.laid W)(g:W.ShapedOpen c):LTs W.heap:=⟨ZeA h,⟨Zeu h,Zet h⟩,Zez g,Zex h,Zey h⟩
theorem ey(os:Os)(args:Array Value):((World.laidAll c os Rows.topScriptsRow.laid).forCall (fun _ _=>0) ⟨#[],args,[]⟩).Shaped c:=World.shaped_of_ZipB po po
theorem Aq(os:Os)(args:Array Value):laidMetH c Rows.topScriptsRow.laid ((World.laidAll c os Rows.topScriptsRow.laid).forCall (fun _ _=>0) ⟨#[],args,[]⟩).memory:=by
 rw[Go.MakeChecks.laidMetH_plain _ _ _ po];exact laidMet_laidAll _ po po
theorem NP(os:Os)(started:os.Started)(H:Type)(enc:TypeId × Value->H):
  ReturnsInHanded {} e os 7 .any (fun w args=>(Rows.topScriptsSpec.pre enc c i [] false w args/\laidMetH c Rows.topScriptsRow.laid w)/\sizedMet enc c i (OpenSpec.ofChange Rows.topScriptsSpec) false w args)
   (Rows.topScriptsSpec.post enc c i false true false false):=
 Ap (C:=e) (laid:=Rows.topScriptsRow.laid) pK started po l
  (ChangeSpec.witness_shaped (enc:=enc) (C:=e) (os:=os) (X:=fun w _=>laidMetH c Rows.topScriptsRow.laid w) false (World.laidAll c os Rows.topScriptsRow.laid) #[.slice none 0 0] 12 (World.laidAll_os _ _ _) (ey os _) po po po (Aq os _))
  pL po po (tb:=4) rfl Tryz.underlying4 rfl (fun ds hd=>by
   have hl:(List.length ds)=1:=hd
   match ds,hl with
   | [d0],_=>rfl) ew Gy
theorem L9:Rows.TopScriptsSaid:=
 OpenClaim.holds_of_wide 7 i rfl rfl rfl rfl rfl rfl rfl ⟨rfl,rfl,rfl,rfl,rfl⟩ rfl rfl rfl rfl rfl po l (show joinedFacts c 7 i Rows.topScriptsSpec Rows.topScriptsRow=true by unfold joinedFacts;rw[ZgV,ZcF,ZcE];kernel_rfl)
  (of_decide_eq_true po) (by unfold Func.isWrapper;rw[if_neg (of_decide_eq_false po)];exact⟨rfl,rfl⟩)
  (fun os started H enc _=>NP os started H enc)
theorem MK(f:FuncId)(fn:Func)(hf:Tryz.pinned.checked.prog.funcNamed "conclave/conclavetop.TopScripts" = some f)(nr:Tryz.pinned.checked.prog.funcs[f]? = some fn):
  true=Tryz.pinned.checked.prog.looks []/\∀(j:Nat) t,fn.params[j]? = some t->Tryz.pinned.checked.prog.wantsStandIn t=false:=by
 obtain rfl:f=7:=Option.some.inj ((show Tryz.prog.funcNamed "conclave/conclavetop.TopScripts" = some 7 by kernel_rfl).symm.trans hf) |>.symm
 obtain rfl:fn=i:=(Option.some.inj (Tryz.func7.symm.trans nr)).symm;refine⟨po,fun j t ht=>?_⟩;have hm:t∈Tryz.f7.params.toList:=by simpa using Array.mem_of_getElem? ht
 have Xc:(Tryz.f7.params.toList.all fun u=>!Tryz.prog.wantsStandIn u)=true:=po;exact (show Tryz.prog.wantsStandIn t=false by simpa using List.all_eq_true.1 Xc t hm)
theorem topScripts_card:Rows.TopScriptsCardSaid:=
 Claim7.holds_tied_plain_at .later [] _ _ _ _ L9 (fun _ h=>by cases h) po (fun _ h=>by cases h) topScripts_row_tie rfl ⟨rfl,rfl⟩ (aK (L:=GU.map Char.ofNat) po po) rfl MK po
end Go.Proofs.YtdpjmhgbmhjniaaGreatDoor
