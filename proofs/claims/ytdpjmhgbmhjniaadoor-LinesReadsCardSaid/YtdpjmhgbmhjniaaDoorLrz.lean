/- LinesReads holds: lines.Read answers what the document says, at every string; the tables as the program lays them. -/
import Derived.Test.YtdpjmhgbmhjniaaDoorTabr
import Derived.Test.YtdpjmhgbmhjniaaDoorW21
import Derived.Lay
import Derived.Shelf.Vars
import Derived.HandedShaped
import Derived.Test.YtdpjmhgbmhjniaaDoorCards
import Derived.Test.YtdpjmhgbmhjniaaDoorTie
namespace Go.Proofs.YtdpjmhgbmhjniaaDoor
open Go Go.V
set_option linter.unusedSimpArgs false
set_option linter.unusedVariables false
set_option maxRecDepth 100000
def DW (h:Hp):Prop:=(Words h∧X0 h)∧WL h∧Jy 2 h∧Jy 3 h
theorem Nq {H:Type} {enc:TypeId × Value→H} {P:Program} {w:World} {base:Nat} {sp:Nat→Bool} {held:Bool} {fuel:Nat} {t:TypeId} {cs:List Value} {x:DataW H × List MemPlace} {m:Array (String × TypeId)}
  (ht:P.underlying t=some (.interface m)) (h:DataW.trod enc P w base sp held fuel t cs=some x):cs=[.nilIface]∨∃u v,cs=[.iface u v]:=by
 cases fuel with
 | zero=>simp[DataW.trod]at h
 | succ fuel=>
  unfold DataW.trod at h
  rw[ht]at h
  match cs,h with
  | [.nilIface],_=>exact .inl rfl
  | [.iface u v],_=>exact .inr ⟨u,v,rfl⟩
  | [],h=>simp at h
  | _ :: _ :: _,h=>simp at h
theorem SU {P:Program} {W:World} {name:String} {d:DataW Unit} {g:Nat} {t:TypeId} {m:Array (String × TypeId)} (hg:P.globalNamed name=some g) (ht:(P.globals[g]?).map (·.type)=some t) (hu:P.underlying t=some (.interface m))
  (h:laidMet P [(name,d)] W):∃ev,hc W.heap ⟨g,0,none⟩=some ev∧(ev=.nilIface∨∃te pe,ev=.iface te pe):=by
 obtain⟨ps,⟨g',t',cs,fuel,p,q,IY,Ep,Qn,hd,_,_⟩,_⟩:=h
 obtain rfl:=Option.some.inj (hg.symm.trans IY)
 obtain rfl:=Option.some.inj (ht.symm.trans Ep)
 have Xc:=Nq hu hd
 unfold World.var? at Qn
 rw[hg,Option.bind_some]at Qn
 split at Qn
 ·rename_i c2 t2 fr hb
  have HG:c2.toList=cs.toList:=by simp only[Option.some.injEq]at Qn;rw[Qn]
  rcases Xc with e|⟨u,v,e⟩
  ·refine⟨.nilIface,?_,.inl rfl⟩
   rw[Yy hb]
   have h5:c2[0]? = (c2.toList)[0]?:=by simp
   rw[h5,HG,e];rfl
  ·refine⟨.iface u v,?_,.inr ⟨u,v,rfl⟩⟩
   rw[Yy hb]
   have h5:c2[0]? = (c2.toList)[0]?:=by simp
   rw[h5,HG,e];rfl
 ·cases Qn
theorem Er:Tryd.prog.globalNamed "strconv.ErrSyntax" = some 2:=by kernel_rfl
theorem HH:(Tryd.prog.globals[2]?).map (·.type)=some 51:=by kernel_rfl
theorem Es:Tryd.prog.globalNamed "strconv.ErrRange" = some 3:=by kernel_rfl
theorem HI:(Tryd.prog.globals[3]?).map (·.type)=some 51:=by kernel_rfl
theorem Kr {W:World} (h:laidMetH Tryd.prog Rows.linesReadsRow.laid W):Jy 2 W.heap:=by
 rw[Go.MakeChecks.laidMetH_plain _ _ _ (by kernel_rfl)]at h
 have h2:=h.filter (fun x=>x.1 == "strconv.ErrSyntax")
 rw[show (Rows.linesReadsRow.laid.filter fun x=>x.1 == "strconv.ErrSyntax")=[("strconv.ErrSyntax", Rows.laid_strconv_ErrSyntax)] from rfl]at h2
 exact SU Er HH Tryd.underlying51 h2
theorem Ks {W:World} (h:laidMetH Tryd.prog Rows.linesReadsRow.laid W):Jy 3 W.heap:=by
 rw[Go.MakeChecks.laidMetH_plain _ _ _ (by kernel_rfl)]at h
 have h2:=h.filter (fun x=>x.1 == "strconv.ErrRange")
 rw[show (Rows.linesReadsRow.laid.filter fun x=>x.1 == "strconv.ErrRange")=[("strconv.ErrRange", Rows.laid_strconv_ErrRange)] from rfl]at h2
 exact SU Es HI Tryd.underlying51 h2
theorem Kt {W:World} (h:W.ShapedOpen Tryd.prog):WL W.heap:=by
 obtain⟨m,hm⟩:=cell_of_shapedOpen_int (k:=.i64) (g:=1) (t:=3) (zero:=#[.int .i64 0]) h (of_decide_eq_true (by kernel_rfl)) (by kernel_rfl) rfl (by kernel_rfl) (by kernel_rfl) Tryd.underlying3
 exact⟨m,hm⟩
theorem Pg:∀(l cur:List Nat) (acc:List Raw),acc.length≤100000→(Ya l cur acc).1.length≤100000:=by
 intro l
 induction l with
 | nil=>
  intro cur acc h
  rw[Ql]
  split
  ·exact h
  ·split<;>exact Nat.zero_le _
 | cons b l ih=>
  intro cur acc h
  rw[Y7]
  split
  ·split
   ·exact Nat.zero_le _
   ·split
    ·exact Nat.zero_le _
    ·refine ih _ _ ?_
     simp only[List.length_append,List.length_singleton];omega
  ·exact ih _ _ h
theorem V5 {C:Checked} {os:Os} {H:Type} {enc:TypeId × Value→H} {f:FuncId} {fn:Func} {s:ChangeSpec} {tb:TypeId} {L:Hp→Prop} {laid:List (String × DataW Unit)}
  (ZJ:ownKnob C.prog.godebug=none) (started:os.Started) (T2:C.prog.inits.idxOf? f=none) (PB:C.prog.funcs[f]? = some fn)
  (witness:∃(w:World) (tape:Tape) (i:Input),w.os=os∧(w.forCall tape i).Shaped C.prog∧i.vars=[]∧Input.okWide C.prog (w.forCall tape i) .any w.heap.size f i ∧
    ((s.pre enc C.prog fn [] false (w.forCall tape i).memory i.args∧laidMetH C.prog laid (w.forCall tape i).memory)∧sizedMet enc C.prog fn (OpenSpec.ofChange s) false (w.forCall tape i).memory i.args)∧({}:Assume).holds C.prog (lone (Frame.enter C.prog f i.args .normal) [] (w.forCall tape i)))
  (Vx:laidOutB C.prog=true)
  (IC:fn.params.toList.all (fun t=>(ta C.prog t).isSome)=true) (ID:fn.params.toList.all (fun t=>C.prog.readableRec t&&decide (t<C.prog.types.size))=true)
  (IE:fn.resultTypes=#[tb]) (IF:C.prog.underlying tb=some .bool) (Uh:s.vars=[])
  (Vy:∀ds:List (DataW H),ds.length=fn.params.toList.length→s.fn H ds = { results:=[.lit (.bool true)],args:=ds })
  (hL:∀W:World,laidMetH C.prog laid W→W.ShapedOpen C.prog→L W.heap) (law:WA C.prog L f fn.params.toList) :
  ReturnsInHanded {} C os f .any (fun w args=>(s.pre enc C.prog fn [] false w args∧laidMetH C.prog laid w)∧sizedMet enc C.prog fn (OpenSpec.ofChange s) false w args) (s.post enc C.prog fn false true false false):=by
 refine returnsInHanded_of_calls ZJ started T2 witness ?_
 rintro w tape i _ shape _ ⟨_,_,_,G4,Et,_,_,_,_,values⟩ ⟨⟨⟨ds,gs,before,whole,_⟩,Ku⟩,HJ⟩ _
 obtain rfl:fn=G4:=Option.some.inj (PB.symm.trans Et)
 have Eu:=Ug Vx IC ID IE IF Uh Vy law (hL _ (Ku.of_heap (by rfl)) shape) values (DataW.Whole.of_heap (w':=w.forCall tape i) (by rfl) whole) (HJ.weights whole)
 refine Eu.mono fun e W' ⟨v,he,hp⟩=>?_
 subst he
 exact ChangeSpec.post_blind hp
set_option maxHeartbeats 4000000 in
theorem UX:WA Tryd.prog DW 3 Tryd.f3.params.toList:=by
 intro T args Ah YR
 obtain⟨⟨tw,tp⟩,tm,t1,t2⟩:=Ah
 rw[show Tryd.f3.params.toList=[9] from rfl]at YR
 obtain⟨v,_,rfl,⟨k1,h1⟩,YR⟩:=fitAll_cons YR
 obtain rfl:=fitAll_nil YR
 have hv:=Ot (by kernel_rfl) h1
 obtain⟨s,e,_⟩:∃s:ByteArray,[v]=[Value.string s]∧s.size≤reachBytes:=by
  cases k1 with
  | zero=>exact hv.elim
  | succ k=>unfold fit at hv;rw[Tryd.underlying9]at hv;exact hv
 obtain rfl:v=.string s:=by simpa using e
 clear h1 hv e
 generalize T.heap=h at *
 refine Zf.WT [_] Tryd.func3 ?_
 obtain⟨r,hr⟩:∃r:List Raw × Int × Int,r=if 4000000<s.size then ([],0,1) else Ya (bl s) [] []:=⟨_,rfl⟩
 have ro:=MI T h s tw tp tm t1 t2
 rw[←hr]at ro
 simp -implicitDefEqProofs only[go_sem,↓reduceIte]
 refine ro.use ?_
 rintro _ h1 ⟨⟨v1,ys,rfl,e1,s1,y1⟩,b1⟩
 have ao:=VV T h1 s
 rw[←hr]at ao
 obtain⟨p1,c1,rfl⟩:=Uu s1
 simp -implicitDefEqProofs only[go_sem,↓reduceIte]
 refine ao.use ?_
 rintro _ h2 ⟨⟨v2,zs,rfl,e2,s2,y2⟩,b2⟩
 obtain⟨p2,c2,rfl⟩:=Uu s2
 have B2:Zj h.size h h2:=b1.trans (b2.mono b1.size)
 have hlen:ys.length≤2513169434916:=by
  have h1:(Xa ys).length≤100000:=by
   rw[e1,hr]
   split
   ·exact Nat.zero_le _
   ·exact Pg _ _ _ (Nat.zero_le _)
  unfold Xa at h1
  rw[List.length_map]at h1
  omega
 have cs:=VN T h2 _ _ ys zs (s1.Yu b2) s2 (e1.trans e2.symm) (fun y hy=>(y1 y hy).Yu b2) y2 hlen
 simp -implicitDefEqProofs only[go_sem,↓reduceIte]
 refine cs.use ?_
 rintro _ h3 ⟨rfl,b3⟩
 simp -implicitDefEqProofs only[go_sem,↓reduceIte]
 exact B2.trans (b3.mono B2.size)
theorem Nr (W:World) (h:laidMetH Tryd.prog Rows.linesReadsRow.laid W) (g:W.ShapedOpen Tryd.prog):DW W.heap:=⟨⟨Ko h,Kn h⟩,Kt g,Kr h,Ks h⟩
theorem Sv (os:Os) (args:Array Value):((World.laidAll Tryd.prog os Rows.linesReadsRow.laid).forCall (fun _ _=>0) ⟨#[],args,[]⟩).Shaped Tryd.prog:=World.shaped_of_ZipB (by kernel_rfl) (by kernel_rfl)
theorem Ph (os:Os) (args:Array Value):laidMetH Tryd.prog Rows.linesReadsRow.laid ((World.laidAll Tryd.prog os Rows.linesReadsRow.laid).forCall (fun _ _=>0) ⟨#[],args,[]⟩).memory:=by
 rw[Go.MakeChecks.laidMetH_plain _ _ _ (by kernel_rfl)]
 exact laidMet_laidAll _ (by kernel_rfl) (by kernel_rfl)
theorem Qa (os:Os) (started:os.Started) (H:Type) (enc:TypeId × Value→H) :
  ReturnsInHanded {} Tryd.checked os 3 .any (fun w args=>(Rows.linesReadsSpec.pre enc Tryd.prog Tryd.f3 [] false w args∧laidMetH Tryd.prog Rows.linesReadsRow.laid w)∧sizedMet enc Tryd.prog Tryd.f3 (OpenSpec.ofChange Rows.linesReadsSpec) false w args)
   (Rows.linesReadsSpec.post enc Tryd.prog Tryd.f3 false true false false):=
 V5 (C:=Tryd.checked) (laid:=Rows.linesReadsRow.laid) OF started (by kernel_rfl) Tryd.func3
  (ChangeSpec.witness_shaped (enc:=enc) (C:=Tryd.checked) (os:=os) (X:=fun w _=>laidMetH Tryd.prog Rows.linesReadsRow.laid w) false (World.laidAll Tryd.prog os Rows.linesReadsRow.laid) #[.string ⟨#[]⟩] 12 (World.laidAll_os _ _ _) (Sv os _) (by kernel_rfl) (by kernel_rfl) (by kernel_rfl) (Ph os _))
  OG (by kernel_rfl) (by kernel_rfl) (tb:=4) rfl Tryd.underlying4 rfl (fun ds hd=>by
   have hl:ds.length=1:=hd
   match ds,hl with
   | [d0],_=>rfl) Nr UX
theorem QI:Rows.LinesReadsSaid:=
 OpenClaim.holds_of_wide 3 Tryd.f3 rfl rfl rfl rfl rfl rfl rfl ⟨rfl,rfl,rfl,rfl,rfl⟩ rfl rfl rfl rfl rfl (by kernel_rfl) Tryd.func3 (show joinedFacts Tryd.prog 3 Tryd.f3 Rows.linesReadsSpec Rows.linesReadsRow=true by unfold joinedFacts;rw[I3,LW,LV];kernel_rfl)
  (of_decide_eq_true (by kernel_rfl)) (by unfold Func.isWrapper;rw[if_neg (of_decide_eq_false (by kernel_rfl))];exact⟨rfl,rfl⟩)
  (fun os started H enc _=>Qa os started H enc)
theorem Qo (f:FuncId) (fn:Func) (hf:Tryd.pinned.checked.prog.funcNamed "conclave/conclavelaw.LinesReads" = some f) (PB:Tryd.pinned.checked.prog.funcs[f]? = some fn) :
  true=Tryd.pinned.checked.prog.looks []∧∀(j:Nat) t,fn.params[j]? = some t→Tryd.pinned.checked.prog.wantsStandIn t=false:=by
 obtain rfl:f=3:=Option.some.inj ((show Tryd.prog.funcNamed "conclave/conclavelaw.LinesReads" = some 3 by kernel_rfl).symm.trans hf) |>.symm
 obtain rfl:fn=Tryd.f3:=(Option.some.inj (Tryd.func3.symm.trans PB)).symm
 refine⟨by kernel_rfl,fun j t ht=>?_⟩
 have hm:t∈Tryd.f3.params.toList:=by simpa using Array.mem_of_getElem? ht
 have XM:(Tryd.f3.params.toList.all fun u=>!Tryd.prog.wantsStandIn u)=true:=by kernel_rfl
 exact (show Tryd.prog.wantsStandIn t=false by simpa using List.all_eq_true.1 XM t hm)
theorem linesReads_card:Rows.LinesReadsCardSaid:=
 Claim7.holds_tied_plain_at .later [] _ _ _ _ QI (fun _ h=>by cases h) (by kernel_rfl) (fun _ h=>by cases h) linesReads_row_tie rfl ⟨rfl,rfl⟩ (T3 (L:=Wb.map Char.ofNat) (by kernel_rfl) (by kernel_rfl)) rfl Qo (by kernel_rfl)
end Go.Proofs.YtdpjmhgbmhjniaaDoor
