/- Decimal numerals: strconv.Itoa, by the kit's contract. -/
import Derived.Test.YthlfaofofaphfaaDoorBase
import Derived.Test.YthlfaofofaphfaaDoorW28
import Derived.Shelf.Strconv.Itoa3
import Derived.Test.YthlfaofofaphfaaDoorLchks
import Derived.Lib.ItoaLen
import Derived.Lib.ItoaMem
import Derived.LaidSub
import Derived.MakeChecks
import Derived.ProofKit
namespace Go.Proofs.YthlfaofofaphfaaDoor
open Go Go.V
set_option linter.unusedSimpArgs false
set_option linter.unusedVariables false
set_option maxRecDepth 100000
def S8:Go.Shelf.Ren:=⟨fun|171=>24|243=>39|246=>45|283=>56|284=>57|285=>58|286=>59|129=>68|317=>67|318=>69|319=>70|320=>71|337=>78|338=>79|n=>n,fun|3=>3|9=>9|2=>2|4=>4|171=>88|0=>0|53=>89|37=>32|5=>5|173=>92|212=>104|51=>105|20=>20|213=>106|46=>61|232=>120|233=>121|n=>n,fun|17=>4|18=>7|19=>8|n=>n⟩
theorem NX:LaysM.n171 Tryd.prog S8:={
 mixed:=by kernel_rfl,
 f129:=Tryd.func68.trans (congrArg some (by kernel_rfl)),
 f171:=Tryd.func24.trans (congrArg some (by kernel_rfl)),
 f243:=Tryd.func39.trans (congrArg some (by kernel_rfl)),
 f246:=Tryd.func45.trans (congrArg some (by kernel_rfl)),
 f283:=Tryd.func56.trans (congrArg some (by kernel_rfl)),
 f284:=Tryd.func57.trans (congrArg some (by kernel_rfl)),
 f285:=Tryd.func58.trans (congrArg some (by kernel_rfl)),
 f286:=Tryd.func59.trans (congrArg some (by kernel_rfl)),
 f317:=Tryd.func67.trans (congrArg some (by kernel_rfl)),
 f318:=Tryd.func69.trans (congrArg some (by kernel_rfl)),
 f319:=Tryd.func70.trans (congrArg some (by kernel_rfl)),
 f320:=Tryd.func71.trans (congrArg some (by kernel_rfl)),
 f337:=Tryd.func78.trans (congrArg some (by kernel_rfl)),
 f338:=Tryd.func79.trans (congrArg some (by kernel_rfl)),
 t0:=Tryd.underlying0,
 a0:=Tryd.isAgg0,
 z0:=Tryd.sizeOf0,
 v0:=Tryd.zeroValue0,
 t2:=Tryd.underlying2,
 a2:=Tryd.isAgg2,
 z2:=Tryd.sizeOf2,
 v2:=Tryd.zeroValue2,
 t3:=Tryd.underlying3,
 a3:=Tryd.isAgg3,
 z3:=Tryd.sizeOf3,
 v3:=Tryd.zeroValue3,
 t4:=Tryd.underlying4,
 a4:=Tryd.isAgg4,
 z4:=Tryd.sizeOf4,
 v4:=Tryd.zeroValue4,
 t5:=Tryd.underlying5,
 a5:=Tryd.isAgg5,
 z5:=Tryd.sizeOf5,
 v5:=Tryd.zeroValue5,
 t9:=Tryd.underlying9,
 a9:=Tryd.isAgg9,
 z9:=Tryd.sizeOf9,
 v9:=Tryd.zeroValue9,
 t20:=Tryd.underlying20,
 a20:=Tryd.isAgg20,
 z20:=Tryd.sizeOf20,
 v20:=Tryd.zeroValue20,
 t37:=Tryd.underlying32,
 a37:=Tryd.isAgg32,
 z37:=Tryd.sizeOf32,
 v37:=Tryd.zeroValue32,
 t46:=Tryd.underlying61,
 a46:=Tryd.isAgg61,
 z46:=Tryd.sizeOf61,
 v46:=Tryd.zeroValue61,
 t51:=Tryd.underlying105,
 a51:=Tryd.isAgg105,
 z51:=Tryd.sizeOf105,
 v51:=Tryd.zeroValue105,
 t53:=Tryd.underlying89,
 a53:=Tryd.isAgg89,
 z53:=Tryd.sizeOf89,
 v53:=Tryd.zeroValue89,
 t171:=Tryd.underlying88,
 a171:=Tryd.isAgg88,
 z171:=Tryd.sizeOf88,
 v171:=Tryd.zeroValue88,
 t173:=Tryd.underlying92,
 a173:=Tryd.isAgg92,
 z173:=Tryd.sizeOf92,
 v173:=Tryd.zeroValue92,
 t212:=Tryd.underlying104,
 a212:=Tryd.isAgg104,
 z212:=Tryd.sizeOf104,
 v212:=Tryd.zeroValue104,
 t213:=Tryd.underlying106,
 a213:=Tryd.isAgg106,
 z213:=Tryd.sizeOf106,
 t232:=Tryd.underlying120,
 a232:=Tryd.isAgg120,
 z232:=Tryd.sizeOf120,
 v232:=Tryd.zeroValue120,
 t233:=Tryd.underlying121,
 a233:=Tryd.isAgg121,
 z233:=Tryd.sizeOf121,
 v233:=Tryd.zeroValue121,
 g17:=by kernel_rfl,
 g18:=by kernel_rfl,
 g19:=by kernel_rfl,
 i0:=by kernel_rfl,
 i2:=by kernel_rfl,
 i3:=by kernel_rfl,
 i4:=by kernel_rfl,
 i5:=by kernel_rfl,
 i9:=by kernel_rfl,
 i20:=by kernel_rfl,
 i37:=by kernel_rfl,
 i46:=by kernel_rfl,
 i51:=by kernel_rfl,
 i53:=by kernel_rfl,
 i171:=by kernel_rfl,
 i173:=by kernel_rfl,
 i212:=by kernel_rfl,
 i232:=by kernel_rfl,
 i233:=by kernel_rfl,
 m17:=by kernel_rfl,
 m18:=by kernel_rfl,
 m19:=by kernel_rfl }
def Xk (h:Hp):Prop:=∃e fr,h[(4:Nat)]? = some (.cells (Lib.pow10Tab.map fun z=>Value.int .u64 z).toArray e fr)
theorem RZ (T:World) (h:Hp) (n:Int) (h0 : -9223372036854775808≤n) (h1:n≤9223372036854775807) (I6:Xk h) :
  Ze Tryd.prog T 24 #[.int .i64 n] h fun v h'=>v=.string ⟨(Lib.itoa n).toArray⟩∧Zg h.size h h':=by
 refine Ze.S4 fun w hs=>?_
 have ht:Lib.TabIs Tryd.prog w "internal/strconv.uint64pow10" .u64 Lib.pow10Tab:=by
  obtain⟨e,fr,ht⟩:=I6
  show (Tryd.prog.globalNamed "internal/strconv.uint64pow10").bind _=_
  rw[show Tryd.prog.globalNamed "internal/strconv.uint64pow10" = some 4 by kernel_rfl]
  simp only[Option.bind_some,hs.heap,ht]
 refine (Any.strconv_Itoa NX n h0 h1 w ht).mono ?_
 rintro e w' ⟨rfl,k,os,rfl⟩
 refine⟨_,rfl,rfl,rfl,rfl,rfl,?_⟩
 have hh:(Go.Sort.grow (w.drewN k) os).heap=h++os:=by rw[←hs.heap];rfl
 rw[hh]
 exact Zg.app os (Nat.le_refl _)
@[go_sem] theorem I7:NL Tryd.prog 36=true:=by kernel_rfl
theorem VL:Extern.findNext Tryd.f38=none∧Extern.find Tryd.f38=some Extern.AbiNoEscape.same:=⟨by kernel_rfl,by kernel_rfl⟩
theorem NY:liesAt Tryd.prog Tryd.prog.depth 38 (2/Tryd.prog.cellsOf 38) 0 38 1=true:=by kernel_rfl
theorem R0:Tryd.prog.cellsOf 5=1:=by kernel_rfl
theorem X6.set {h:Hp} {b:Nat} (o:Obj):X6 (some b) h (h.setIfInBounds b o):=⟨by simp,fun k hk Z1=>by rw[Array.getElem?_setIfInBounds,if_neg (fun e=>Z1 (by rw[e]))]⟩
theorem UY {P:Program} {x:Value} {Q:Value→Hp→Prop} {h:Hp}:hw P (Extern.AbiNoEscape.same #[x]) Q h=Q x h:=rfl
theorem Uk (T:World) (h:Hp) (b:Nat) (p:Option Addr) (v:Value) (hp:p=none∨p=some ⟨b,0,none⟩) (hb:h[b]? = some (.cells [.pointer p,v].toArray 38)) :
  Ze Tryd.prog T 23 #[.pointer (some ⟨b,0,none⟩)] h fun v' h'=>h'[b]? = some (.cells [.pointer (some ⟨b,0,none⟩),v].toArray 38)∧h'.size=h.size∧X6 (some b) h h':=by
 refine Ze.Zn (args:=[_]) Tryd.func23 rfl rfl rfl rfl ?_
 have x0:hc h ⟨b,0,none⟩=some (.pointer p):=by rw[Zk hb];rfl
 have Wf:ZN h b=some (38,2):=by unfold ZN;rw[hb];rfl
 rcases hp with rfl|rfl
 ·simp +contextual -implicitDefEqProofs only[go_sem,↓reduceIte,x0]
  refine Qa Tryd.underlying36 Tryd.underlying74 P5 (by decide) Wf (show 0<2 by decide) ?_
  simp +contextual -implicitDefEqProofs only[go_sem,↓reduceIte,x0]
  refine Ue Tryd.func38 (by decide) rfl VL.1 VL.2 ?_
  rw[UY]
  simp +contextual -implicitDefEqProofs only[go_sem,↓reduceIte,x0]
  refine Ja Tryd.underlying74 Tryd.underlying36 P5 Wf NY ?_
  have ws:=JK hb 0 (.pointer (some ⟨b,0,none⟩))
  simp +contextual -implicitDefEqProofs only[go_sem,↓reduceIte,x0,ws]
  exact⟨by simp[Zb hb],X6.set _⟩
 ·simp +contextual -implicitDefEqProofs only[go_sem,↓reduceIte,x0]
  refine Ug Tryd.underlying36 P5 ?_
  simp +contextual -implicitDefEqProofs only[go_sem,↓reduceIte,x0]
  exact⟨hb,X6.refl⟩
structure Vk (b:Nat) (v:Value) (h:Hp) (l:List Nat):Prop where
 Ph:∃p,(p=none∨p=some ⟨b,0,none⟩)∧h[b]? = some (.cells [.pointer p,v].toArray 38)
 own:Xg (b+1) 5 h v l
structure Kept (b:Nat) (x:Option Nat) (h h':Hp):Prop where
 size:h.size≤h'.size
 block:∀k,k<h.size→k≠b→x≠some k→h'[k]? = h[k]?
theorem Yd (T:World) (h:Hp) (b:Nat) (v:Value) (l k:List Nat) (bl:Vk b v h l) (hk:∀x∈k,x<256) (YU:l.length+k.length≤140737488355328) :
  Ze Tryd.prog T 13 #[.pointer (some ⟨b,0,none⟩),.string ⟨(k.map UInt8.ofNat).toArray⟩] h fun v' h'=>∃w,Vk b w h' (l++k)∧Kept b (Zj v) h h'∧(∀x,Zj w=some x→Zj v=some x∨h.size≤x):=by
 obtain⟨⟨p,hp,hb⟩,own⟩:=bl
 have Z1:Zj v≠some b:=fun e=>by have:=own.own.Ph b e;omega
 have I8:=Zb hb
 refine Ze.Zn (args:=[_,_]) Tryd.func13 rfl rfl rfl rfl ?_
 simp +contextual -implicitDefEqProofs only[go_sem,↓reduceIte]
 refine (Uk T h b p v hp hb).use ?_
 rintro _ h1 ⟨OA,KT,c1⟩
 have LQ:Xg (b+1) 5 h1 v l:=own.SN c1 (fun x hx e=>Z1 (by rw[hx,←e]))
 have x1:hc h1 ⟨b,1,none⟩=some v:=by rw[Zk OA];rfl
 simp +contextual -implicitDefEqProofs only[go_sem,↓reduceIte,x1]
 refine ZX (E:=5) Yc Tryd.underlying9 U4 U6 U5 LQ (by rw[KT];omega) hk YU ?_
 intro v2 h2 NZ TJ Oa TE
 obtain⟨p2,c2,rfl,_⟩:=NZ.open
 have Mj:h2[b]? = some (.cells [.pointer (some ⟨b,0,none⟩),v].toArray 38):=(Oa.block b (by rw[KT];exact I8) Z1).trans OA
 have ws:=JK Mj 1 (.slice p2 (l++k).length c2)
 simp +contextual -implicitDefEqProofs only[go_sem,↓reduceIte,ws]
 have LR:Zj (.slice p2 (l++k).length c2)≠some b:=fun e=>by
  rcases TE b e with h3|h3
  ·exact Z1 h3
  ·omega
 refine⟨_,⟨⟨_,.inr rfl,by rw[Array.getElem?_setIfInBounds,if_pos rfl,if_pos (Zb Mj)]⟩,NZ.SN (X6.set _) (fun x hx e=>LR (by rw[hx,←e]))⟩,⟨?_,fun j hj h3 h4=>?_⟩,fun x hx=>?_⟩
 ·have:=Oa.size;simp;omega
 ·rw[Array.getElem?_setIfInBounds,if_neg (fun e=>h3 e.symm),Oa.block j (by omega) h4,c1.block j hj (fun e=>h3 (by cases e;rfl))]
 ·rcases TE x hx with h3|h3
  ·exact .inl h3
  ·exact .inr (by omega)
theorem Jd (T:World) (h:Hp) (b:Nat) (v:Value) (l:List Nat) (bl:Vk b v h l) (Z1:l≠[]) (hlen:l.length≤140737488355328) :
  Ze Tryd.prog T 15 #[.pointer (some ⟨b,0,none⟩)] h fun v' h'=>v'=.string ⟨(l.map UInt8.ofNat).toArray⟩∧Kept b (Zj v) h h':=by
 obtain⟨⟨p,hp,hb⟩,own⟩:=bl
 refine Ze.Zn (args:=[_]) Tryd.func15 rfl rfl rfl rfl ?_
 have x1:hc h ⟨b,1,none⟩=some v:=by rw[Zk hb];rfl
 obtain⟨p2,c2,rfl,hle⟩:=own.open
 simp +contextual -implicitDefEqProofs only[go_sem,↓reduceIte,x1]
 refine VS.w ((b+1)) [] (.q 0 (.q 1 (.q 2 (.q 3 (.q 5 (.q 6 (.q 7 (.q 8 (.q 9 (.s 4 (.s 10 (.q 11 .nil)))))))))))) mixed (by kernel_rfl) ?_
 simp -implicitDefEqProofs only[go_sem,↓reduceIte,x1]
 refine Uh own Z1 ?_
 intro g cap he hg
 obtain⟨rfl,_,rfl⟩:p2=some ⟨g,0,none⟩∧True∧c2=cap:=by
  simp only[Value.slice.injEq]at he
  exact⟨he.1,trivial,he.2.2⟩
 simp -implicitDefEqProofs only[go_sem,↓reduceIte,x1]
 refine Ui own Z1 Tryd.underlying62 R0 hlen ?_
 intro h' SN
 have LS:Zj (.slice (some ⟨g,0,none⟩) l.length c2)=some g:=by
  have:c2≠0:=by
   have h6:l.length≠0:=by simpa using Z1
   omega
  simp[Zj,this]
 have ZZ:Zg (b+1) h h':=SN.ZZ (Zb hb) (fun x hx=>by cases hx;exact hg)
 simp -implicitDefEqProofs only[go_sem,↓reduceIte,x1,LS]
 exact⟨ZZ,SN.size,fun k hk _ hx=>SN.block k hk hx⟩
theorem ZP {P:Program} {T:World} {K:Value→Hp→Prop} {h:Hp} {f:FuncId} {x:Value} {l:List Value} (hg:goes P f=true) (H:Ze P T f (x :: l).toArray h K):Jm P T (.func (.func f) #[x] #[]) l K h:=by
 simp only[Jm,hg,↓reduceIte]
 simpa using H
theorem YD {P:Program} {K:Value→Hp→Prop} {h:Hp} {t:TypeId} {x y:Operand} {u v:List UInt8} (hl:u.length+v.length≤9223372036854775807) (H:K (.string ⟨(u++v).toArray⟩) h):Zt P .add t x y (.string ⟨u.toArray⟩) (.string ⟨v.toArray⟩) K h:=by
 have e:((⟨u.toArray⟩:ByteArray)++(⟨v.toArray⟩:ByteArray))=⟨(u++v).toArray⟩:=by
  apply ByteArray.ext
  simp
 have hs:¬(((⟨u.toArray⟩:ByteArray).size+(⟨v.toArray⟩:ByteArray).size:Nat):Int)>IntKind.i64.max:=by
  have P4:IntKind.i64.max=9223372036854775807:=rfl
  rw[P4]
  simp only[ByteArray.size,List.size_toArray]
  omega
 unfold Zt
 rw[Za]
 show hw P (Op.stringOp .add ⟨u.toArray⟩ ⟨v.toArray⟩) K h
 unfold Op.stringOp
 simp only[if_neg hs,e]
 exact H
def Z6 (x:Nat):Nat:=if x<10 then 48+x else 87+x
theorem QQ {K:Value→Hp→Prop} {h:Hp} {s:ByteArray} {k:IntKind} {A:Int} {a:Nat} {o:Option Nat} (hA:A=a) (ho:o=some (a+1)) (H:K (.string (s.extract a (a+1))) h):Pg s (some (.int k A)) o K h:=by
 subst hA;subst ho
 have e:sb (some (.int k (a:Int))) 0 (a+1)=some a:=by
  simp only[sb]
  rw[if_pos (by omega)]
  simp
 show (match sb (some (.int k (a:Int))) 0 (a+1) with|some l=>K (.string (s.extract l (a+1))) h|none=>False)
 rw[e]
 exact H
theorem U9 (x:Nat):St .u8 (x:Int) 4=((x/16:Nat):Int):=by
 show (x:Int).fdiv 16=_
 rw[Int.fdiv_eq_ediv_of_nonneg _ (by omega)]
 omega
theorem S9:∀a,a<16→(⟨#[48,49,50,51,52,53,54,55,56,57,97,98,99,100,101,102]⟩:ByteArray).extract a (a+1)=⟨([Z6 a].map UInt8.ofNat).toArray⟩:=by
 intro a ha
 apply ByteArray.ext
 rw[ByteArray.data_extract]
 have h9:∀a,a<16→(#[48,49,50,51,52,53,54,55,56,57,97,98,99,100,101,102]:Array UInt8).extract a (a+1)=([Z6 a].map UInt8.ofNat).toArray:=by decide
 exact h9 a ha
theorem Ju:∀x:Nat,x<256→Xe .and .u8 (x:Int) 15=((x%16:Nat):Int):=by decide
theorem Qc:goes Tryd.prog 13=true:=by kernel_rfl
theorem Xa {k:Int}:∀x∈slotsOf k,x.2≤1048576:=by
 intro x hx
 unfold slotsOf at hx
 repeat' split at hx
 all_goals simp at hx
 all_goals rcases hx with rfl|rfl<;>simp
def Y5:List (List Nat):=[[],[115,117,98,109,105,116],[108,101,97,100],[115,116,101,112],[99,97,114,114,121],[108,111,115,101],[100,111,117,98,108,101],[97,108,108],[99,114,97,115,104],[115,116,97,114,116]]
def Z7 (k:Int):List Nat:=Y5.getD k.toNat []
def YN (l:List Nat):Value:=.string ⟨(l.map UInt8.ofNat).toArray⟩
def Words (h:Hp):Prop:=(0:Nat)<h.size∧∀k,k<10→hc h ⟨0,k,none⟩=some (YN (Y5.getD k []))
def YS (n:Int):List Nat:=(Lib.itoa n).map UInt8.toNat
def Xw (k n a b:Int) (xs:List (Nat × Int)):List Nat:=(xs.map fun x=>32 :: YS (Zz k n a b x.1)).flatten
def Ym (d:List Nat):List Nat:=(d.map fun x=>[Z6 (x/16),Z6 (x%16)]).flatten
def XW (k n a b:Int) (d:List Nat):List Nat:=Z7 k++Xw k n a b (slotsOf k)++(if k=1 then 32 :: Ym d else [])++[10]
theorem Qd {k n a b:Int}:∀(xs:List (Nat × Int)),(∀x∈xs,ZO k n a b x∧x.2≤1048576)→(Xw k n a b xs).length≤22*xs.length:=by
 intro xs
 induction xs with
 | nil=>intro _;simp[Xw]
 | cons x xs ih=>
  intro hx
  have h1:=ih (fun y hy=>hx y (List.mem_cons_of_mem _ hy))
  have h2:=hx x (List.mem_cons_self ..)
  unfold ZO at h2
  have h3:=Lib.itoa_length_le (Zz k n a b x.1) (by omega) (by omega)
  have e:Xw k n a b (x :: xs)=(32 :: YS (Zz k n a b x.1))++Xw k n a b xs:=by simp[Xw]
  rw[e,List.length_append,List.length_cons,List.length_cons]
  unfold YS
  rw[List.length_map]
  omega
theorem TK {k n a b:Int} (xs:List (Nat × Int)) (x:Nat × Int):Xw k n a b (xs++[x])=Xw k n a b xs++(32 :: YS (Zz k n a b x.1)):=by simp[Xw]
theorem Je (v:Int):∀x∈32 :: YS v,x<256:=by
 intro x hx
 rcases List.mem_cons.1 hx with rfl|hx
 ·omega
 ·unfold YS at hx
  obtain⟨y,_,rfl⟩:=List.mem_map.1 hx
  exact y.toNat_lt
theorem Kept.ZZ {b B:Nat} {x:Option Nat} {h h':Hp} (k:Kept b x h h') (h1:B≤h.size) (h2:B≤b) (h3:∀y,x=some y→B≤y):Zg B h h':=
 ⟨k.size,fun j hj=>k.block j (by omega) (by omega) (fun e=>by have:=h3 _ e;omega)⟩
theorem Vk.low {b:Nat} {v:Value} {h:Hp} {l:List Nat} (s:Vk b v h l):∀y,Zj v=some y→b+1≤y:=s.own.own.Ph
theorem Vk.lt {b:Nat} {v:Value} {h:Hp} {l:List Nat} (s:Vk b v h l):b<h.size:=by
 obtain⟨⟨q,hq,hb⟩,o⟩:=s
 exact Zb hb
theorem R1 (T:World) (h:Hp) (k n a b:Int) (p:Option Addr) (c:Nat) (d:List Nat) (hk:1≤k∧k≤9) (s:Bs h (.slice p d.length c) d) (hd:d.length≤2000) (XX:∀x∈slotsOf k,ZO k n a b x) (tw:Words h) (tp:Xk h) :
  Ze Tryd.prog T 14 #[.agg (Zy k n a b (.slice p d.length c)).toArray] h fun v' h'=>v'=YN (XW k n a b d)∧Zg h.size h h':=by
 refine Ze.Zn (args:=[_]) Tryd.func14 rfl rfl rfl rfl ?_
 have I9:(0:Int)≤k∧k<10:=by omega
 obtain⟨wl,N0⟩:=X2 (Z7 k)
 have hw:hc h ⟨0,k.toNat,none⟩=some (.string ⟨(wl.map UInt8.ofNat).toArray⟩):=by rw[N0];exact tw.2 k.toNat (by omega)
 have Ha:∀x∈wl,x<256:=by
  rw[N0];unfold Z7
  have:k.toNat<10:=by omega
  have h9:∀j,j<10→∀x∈Y5.getD j [],x<256:=by decide
  exact h9 _ this
 have H7:wl.length≤6:=by
  rw[N0];unfold Z7
  have:k.toNat<10:=by omega
  have h9:∀j,j<10→(Y5.getD j []).length≤6:=by decide
  exact h9 _ this
 have MF:=tw.1
 unfold Zy
 simp +contextual -implicitDefEqProofs only[go_sem,↓reduceIte,I9,hw]
 obtain⟨G,hG⟩:=X2 ((h.push (.cells [.int .i64 k,.int .i64 n,.int .i64 a,.int .i64 b,.slice p d.length c].toArray 34)).push (.cells [.pointer none,.slice none 0 0].toArray 38))
 rw[←hG]
 have gs:G.size=h.size+2:=by rw[hG];simp
 have g0:G[h.size]? = some (.cells (Zy k n a b (.slice p d.length c)).toArray 34):=by rw[hG,Zu (by simp),Zq];rfl
 have g1:Vk (h.size+1) (.slice none 0 0) G []:=by
  refine⟨⟨none,.inl rfl,?_⟩,⟨YX.nil _ _ _ _,fun x hx=>by cases hx⟩⟩
  rw[hG,show h.size+1=(h.push (.cells [.int .i64 k,.int .i64 n,.int .i64 a,.int .i64 b,.slice p d.length c].toArray 34)).size by simp,Zq]
 have gb:Zg h.size h G:=by rw[hG];exact ((Zg.refl _ _).add _).add _
 refine ZP Qc ?_
 refine (Yd T G _ _ [] wl g1 Ha (by simp;omega)).use ?_
 rintro _ h1 ⟨w1,MK,LU,H8⟩
 rw[List.nil_append]at MK
 have kz:=LU.size
 have k0:h1[h.size]? = some (.cells (Zy k n a b (.slice p d.length c)).toArray 34):=(LU.block _ (by omega) (by omega) (by simp[Zj])).trans g0
 have LV:Zg h.size h h1:=⟨by omega,fun j hj=>(LU.block j (by omega) (by omega) (by simp[Zj])).trans (gb.block j hj)⟩
 have OL:∀x,Zj w1=some x→h.size+2≤x∧x<h1.size:=fun x hx=>⟨MK.own.own.Ph x hx,MK.own.own.lt x hx⟩
 simp +contextual -implicitDefEqProofs only[go_sem,↓reduceIte]
 refine (Jt T h1 h.size k n a b (.slice p d.length c) k0).use ?_
 rintro _ h2 ⟨wn,rfl,LW,b2⟩
 obtain⟨pw,cw,rfl,Ye⟩:=Qn.Pp (enc:=Yx h.size) (n:=2) (fun _=>rfl) (by decide) LW
 have Hb:Vk (h.size+1) w1 h2 wl:=by
  obtain⟨⟨q,hq,hb⟩,o⟩:=MK
  exact⟨⟨q,hq,b2.get (Zb hb) hb⟩,o.ZZ b2 (Nat.le_refl _)⟩
 have k2:=b2.get (Zb k0) k0
 have TJ:Zg h.size h h2:=LV.trans (b2.mono (by omega))
 have hlen:=Jb k
 have PV:decide (1≤k∧k≤9)=true:=by simpa using hk
 simp +contextual -implicitDefEqProofs only[go_sem,↓reduceIte,PV]
 refine VS.XL (fun F g=>Kept (h.size+1) (Zj w1) h2 g∧F 1=.pointer (some ⟨h.size,0,none⟩)∧F 3=.pointer (some ⟨h.size+1,0,none⟩)∧F 4=.func (.func 13) #[.pointer (some ⟨h.size+1,0,none⟩)] #[]∧F 22=.slice pw (slotsOf k).length cw∧F 23=.int .i64 (slotsOf k).length∧∃i:Nat,i≤(slotsOf k).length∧F 24=.int .i64 i∧∃w,(∀x,Zj w=some x→Zj w1=some x∨h2.size≤x)∧Vk (h.size+1) w g (wl++Xw k n a b ((slotsOf k).take i)))
  (fun F _=>(slotsOf k).length-(vi (F 24)).toNat) rfl ⟨⟨Nat.le_refl _,fun _ _ _ _=>rfl⟩,rfl,rfl,rfl,rfl,rfl,0,by omega,rfl,w1,fun x hx=>.inl hx,by simpa [Xw] using Hb⟩ ?_
 rintro F g ⟨kp,f1,f3,f4,f22,f23,i,hi,f24,w,LX,bl⟩
 have Hc:=kp.size
 by_cases Zs:i<(slotsOf k).length
 ·have YH:(i:Int)<(slotsOf k).length:=by omega
  obtain⟨bb,oo,rfl,WV,Up,Ye⟩:=Ye (by intro e;rw[e]at Zs;simp at Zs)
  have hx:=List.getElem_mem Zs
  have P8:=Y4 _ hx
  have r1:=(Ye i Zs).rd (by simp[Yx]) (m:=2) rfl
  obtain⟨x,VJ⟩:=X2 ((slotsOf k)[i])
  rw[←VJ]at hx P8 r1
  have r2:rd g ⟨bb,oo+i*2,none⟩ 2=some (Yx h.size x):=by
   rw[←r1];unfold rd;rw[kp.block bb Up (by omega) (fun e=>by have:=OL _ e;omega)]
  have v1:hc g ⟨h.size,x.1,none⟩=some (.int .i64 (Zz k n a b x.1)):=by
   rw[Zk ((kp.block _ (Zb k2) (by omega) (fun e=>by have:=OL _ e;omega)).trans k2),Qb _ _ _ _ _ _ P8.1]
  unfold Yx at r2
  have hv:=XX x hx
  unfold ZO at hv
  have H9:=Xa _ hx
  have Hd:∀o,Xk (g.push o):=fun o=>by
   obtain⟨e,fr,ht⟩:=tp
   have He:=Zb ht
   refine⟨e,fr,?_⟩
   rw[Zu (by have:=TJ.size;omega),kp.block _ (by have:=TJ.size;omega) (by omega) (fun e=>by have:=OL _ e;omega),TJ.block _ He,ht]
  simp +contextual -implicitDefEqProofs only[go_sem,↓reduceIte,f1,f4,f22,f23,f24,YH,r2,v1]
  refine (RZ T _ _ (by omega) (by omega) (Hd _)).use ?_
  rintro _ h3 ⟨rfl,b3⟩
  have Ga:=Lib.itoa_length_le (Zz k n a b x.1) (by omega) (by omega)
  simp +contextual -implicitDefEqProofs only[go_sem,↓reduceIte]
  refine YD (u:=[32]) (v:=Lib.itoa (Zz k n a b x.1)) (by simp;omega) ?_
  have Hf:([32]++Lib.itoa (Zz k n a b x.1))=(32 :: YS (Zz k n a b x.1)).map UInt8.ofNat:=by
   unfold YS
   simp[List.map_map,Function.comp_def]
  rw[Hf]
  simp +contextual -implicitDefEqProofs only[go_sem,↓reduceIte,f4]
  refine ZP Qc ?_
  have gz:=b3.size
  have Hg:Vk (h.size+1) w h3 (wl++Xw k n a b ((slotsOf k).take i)):=by
   obtain⟨⟨q,hq,hb⟩,o⟩:=bl
   have LS:=Zb hb
   exact⟨⟨q,hq,b3.get (by simp;omega) (by rw[Zu LS];exact hb)⟩,(o.push _).ZZ b3 (Nat.le_refl _)⟩
  refine (Yd T h3 _ _ _ (32 :: YS (Zz k n a b x.1)) Hg ?_ ?_).use ?_
  ·exact Je _
  ·have hn:=Qd (k:=k) (n:=n) (a:=a) (b:=b) ((slotsOf k).take i) (fun y hy=>⟨XX y (List.mem_of_mem_take hy),Xa y (List.mem_of_mem_take hy)⟩)
   rw[List.length_append,List.length_cons]
   unfold YS
   rw[List.length_map]
   rw[List.length_take]at hn
   omega
  rintro _ h4 ⟨w4,Hh,KU,Hj⟩
  have Gb:=KU.size
  simp +contextual -implicitDefEqProofs only[go_sem,↓reduceIte,f1,f3,f4,f22,f23,f24]
  refine⟨⟨⟨by simp at gz;omega,fun j hj h5 h6=>?_⟩,f1,f3,f4,f22,f23,i+1,by omega,rfl,w4,fun y hy=>?_,?_⟩,?_⟩
  ·have h7:Zj w≠some j:=fun e=>by
    rcases LX j e with h8|h8
    ·exact h6 h8
    ·omega
   simp at gz
   rw[KU.block j (by omega) h5 h7,b3.block j (by simp;omega),Zu (by omega),kp.block j hj h5 h6]
  ·rcases Hj y hy with h8|h8
   ·exact LX y h8
   ·simp at gz;exact .inr (by omega)
  ·rw[ZH _ i Zs,TK,←VJ,←List.append_assoc];exact Hh
  ·simp only[vi,ZG,↓reduceIte,f24];omega
 ·have Jc:¬(i:Int)<(slotsOf k).length:=by omega
  obtain rfl:i=(slotsOf k).length:=by omega
  rw[List.take_length]at bl
  have y0:hc g ⟨h.size,0,none⟩=some (.int .i64 k):=by
   rw[Zk ((kp.block _ (Zb k2) (by omega) (fun e=>by have:=OL _ e;omega)).trans k2)];rfl
  have hn:=Qd (k:=k) (n:=n) (a:=a) (b:=b) (slotsOf k) (fun y hy=>⟨XX y hy,Xa y hy⟩)
  have Qe:Zg h.size h g:=TJ.trans (kp.ZZ (by have:=TJ.size;omega) (by omega) (fun y hy=>by have:=OL y hy;omega))
  by_cases k1:k=1
  ·have y4:hc g ⟨h.size,4,none⟩=some (.slice p d.length c):=by
    rw[Zk ((kp.block _ (Zb k2) (by omega) (fun e=>by have:=OL _ e;omega)).trans k2)];rfl
   simp +contextual -implicitDefEqProofs only[go_sem,↓reduceIte,f1,f3,f4,f22,f23,f24,Jc,y0,k1]
   refine ZP Qc ?_
   refine (Yd T _ _ _ _ [32] bl (by decide) (by simp only[List.length_append,List.length_cons,List.length_nil];omega)).use ?_
   rintro _ gA ⟨wA,TP,R2,ML⟩
   have Qf:Zg h.size h gA:=Qe.trans (R2.ZZ (by have:=Qe.size;omega) (by omega) (fun y hy=>by have:=bl.low y hy;omega))
   have KV:hc gA ⟨h.size,4,none⟩=some (.slice p d.length c):=by
    have kk:gA[h.size]? = g[h.size]?:=R2.block _ (by have:=bl.lt;omega) (by omega) (fun e=>by have:=bl.low _ e;omega)
    unfold hc at y4 ⊢
    simp only[kk]
    exact y4
   simp +contextual -implicitDefEqProofs only[go_sem,↓reduceIte,f1,KV]
   obtain⟨pre,Vl⟩:=X2 (wl++Xw k n a b (slotsOf k)++[32])
   rw[←Vl]at TP
   have N1:pre.length≤100:=by rw[Vl];simp only[List.length_append,List.length_cons,List.length_nil];omega
   have LY:=s.byte
   refine VS.XL (fun F g=>Zg h.size h g∧F 3=.pointer (some ⟨h.size+1,0,none⟩)∧F 4=.func (.func 13) #[.pointer (some ⟨h.size+1,0,none⟩)] #[]∧F 43=.slice p d.length c∧F 44=.int .i64 d.length∧∃i:Nat,i≤d.length∧F 45=.int .i64 i∧∃w,Vk (h.size+1) w g (pre++Ym (d.take i)))
    (fun F _=>d.length-(vi (F 45)).toNat) rfl ⟨Qf,f3,f4,rfl,rfl,0,by omega,rfl,wA,by simpa [Ym] using TP⟩ ?_
   clear y4 KV Qf TP R2 ML wA gA Jc f1 f3 f4 f22 f23 f24 y0 bl Qe kp Hc LX hi w
   rintro F g ⟨Qe,f3,f4,f43,f44,i,hi,f45,w,bl⟩
   have KW:∀l:List Nat,(Ym l).length=2*l.length:=by
    intro l;induction l with
    | nil=>rfl
    | cons y l ih=>
     have e:Ym (y :: l)=[Z6 (y/16),Z6 (y%16)]++Ym l:=by simp[Ym]
     rw[e,List.length_append,ih];simp only[List.length_cons,List.length_nil];omega
   by_cases Zs:i<d.length
   ·have YH:(i:Int)<d.length:=by omega
    have sg:=s.ZZ Qe
    have r1:∃bb oo,p=some ⟨bb,oo,none⟩∧hc g ⟨bb,oo+i,none⟩=some (bv (d.getD i 0)):=by
     obtain⟨p',c',hv,Ye⟩:=sg.Po
     simp only[Value.slice.injEq]at hv
     obtain⟨rfl,_,_⟩:=hv
     obtain⟨bb,oo,hp,_,Ye⟩:=Ye (by intro e;rw[e]at Zs;simp at Zs)
     exact⟨bb,oo,hp,Ye i Zs⟩
    obtain⟨bb,oo,rfl,r1⟩:=r1
    have hx:d.getD i 0<256:=by
     rw[List.getD_eq_getElem?_getD,List.getElem?_eq_getElem Zs];exact LY _ (List.getElem_mem Zs)
    obtain⟨x,VJ⟩:=X2 (d.getD i 0)
    rw[←VJ]at r1 hx
    unfold bv at r1
    have x1:x/16<16:=by omega
    have x2:x%16<16:=by omega
    have Hk:=KW (d.take i)
    rw[List.length_take]at Hk
    simp +contextual -implicitDefEqProofs only[go_sem,↓reduceIte,f4,f43,f44,f45,YH,r1]
    refine QQ (U9 x) (by rw[U9,if_pos ⟨by omega,by simp;omega⟩];congr 1;omega) ?_
    rw[S9 _ x1]
    simp +contextual -implicitDefEqProofs only[go_sem,↓reduceIte,f4,f43,f44,f45]
    refine ZP Qc ?_
    refine (Yd T _ _ _ _ [Z6 (x/16)] bl ?_ (by simp only[List.length_append,List.length_cons,List.length_nil];omega)).use ?_
    ·intro y hy
     simp only[List.mem_singleton]at hy
     subst hy;unfold Z6;split<;>omega
    rintro _ gA ⟨wA,TP,R2,ML⟩
    have Qf:Zg h.size h gA:=Qe.trans (R2.ZZ (by have:=Qe.size;omega) (by omega) (fun y hy=>by have:=bl.low y hy;omega))
    simp +contextual -implicitDefEqProofs only[go_sem,↓reduceIte,f3,f4,f43,f44,f45]
    refine QQ (Ju x hx) (by rw[Ju x hx,if_pos ⟨by omega,by simp;omega⟩];congr 1;omega) ?_
    rw[S9 _ x2]
    simp +contextual -implicitDefEqProofs only[go_sem,↓reduceIte,f4,f43,f44,f45]
    refine ZP Qc ?_
    refine (Yd T _ _ _ _ [Z6 (x%16)] TP ?_ (by simp only[List.length_append,List.length_cons,List.length_nil];omega)).use ?_
    ·intro y hy
     simp only[List.mem_singleton]at hy
     subst hy;unfold Z6;split<;>omega
    rintro _ gB ⟨wB,Hl,N2,Gc⟩
    have LZ:Zg h.size h gB:=Qf.trans (N2.ZZ (by have:=Qf.size;omega) (by omega) (fun y hy=>by have:=TP.low y hy;omega))
    simp +contextual -implicitDefEqProofs only[go_sem,↓reduceIte,f3,f4,f43,f44,f45]
    refine⟨⟨LZ,f3,f4,f43,f44,i+1,by omega,rfl,wB,?_⟩,?_⟩
    ·have e:Ym (d.take (i+1))=Ym (d.take i)++[Z6 (x/16)]++[Z6 (x%16)]:=by
      rw[ZH _ i Zs]
      have e2:d[i]=x:=by rw[VJ,List.getD_eq_getElem?_getD,List.getElem?_eq_getElem Zs];rfl
      rw[e2]
      simp[Ym]
     rw[e,←List.append_assoc,←List.append_assoc]
     exact Hl
    ·simp only[vi,ZG,↓reduceIte,f45];omega
   ·have Jc:¬(i:Int)<d.length:=by omega
    obtain rfl:i=d.length:=by omega
    rw[List.take_length]at bl
    have hh:=KW d
    simp +contextual -implicitDefEqProofs only[go_sem,↓reduceIte,f3,f4,f43,f44,f45,Jc]
    refine ZP Qc ?_
    refine (Yd T _ _ _ _ [10] bl (by decide) (by simp only[List.length_append,List.length_cons,List.length_nil];omega)).use ?_
    rintro _ gA ⟨wA,TP,R2,ML⟩
    simp +contextual -implicitDefEqProofs only[go_sem,↓reduceIte,f3]
    refine (Jd T gA _ _ _ TP (by simp) (by simp only[List.length_append,List.length_cons,List.length_nil];omega)).use ?_
    rintro _ gB ⟨rfl,N2⟩
    simp +contextual -implicitDefEqProofs only[go_sem,↓reduceIte]
    have Qf:Zg h.size h gA:=Qe.trans (R2.ZZ (by have:=Qe.size;omega) (by omega) (fun y hy=>by have:=bl.low y hy;omega))
    refine⟨?_,Qf.trans (N2.ZZ (by have:=Qf.size;omega) (by omega) (fun y hy=>by have:=TP.low y hy;omega))⟩
    rw[Vl,N0,k1]
    simp[XW,YN]
  ·simp +contextual -implicitDefEqProofs only[go_sem,↓reduceIte,f1,f3,f4,f22,f23,f24,Jc,y0,k1]
   refine ZP Qc ?_
   refine (Yd T _ _ _ _ [10] bl (by decide) (by simp only[List.length_append,List.length_cons,List.length_nil];omega)).use ?_
   rintro _ gA ⟨wA,TP,R2,ML⟩
   simp +contextual -implicitDefEqProofs only[go_sem,↓reduceIte,f3]
   refine (Jd T gA _ _ _ TP (by simp) (by simp only[List.length_append,List.length_cons,List.length_nil];omega)).use ?_
   rintro _ gB ⟨rfl,N2⟩
   simp +contextual -implicitDefEqProofs only[go_sem,↓reduceIte]
   have Qf:Zg h.size h gA:=Qe.trans (R2.ZZ (by have:=Qe.size;omega) (by omega) (fun y hy=>by have:=bl.low y hy;omega))
   refine⟨?_,Qf.trans (N2.ZZ (by have:=Qf.size;omega) (by omega) (fun y hy=>by have:=TP.low y hy;omega))⟩
   rw[N0]
   simp[XW,YN,k1]
theorem Jv (T:World) (h:Hp) (x:Nat) (hx:x<16):Ze Tryd.prog T 29 #[.int .i64 x] h fun v' h'=>v'=.int .u8 (Z6 x:Nat)∧h'=h:=by
 refine Ze.Zn (args:=[_]) Tryd.func29 rfl rfl rfl rfl ?_
 by_cases c:x<10
 ·have c':(x:Int)<10:=by omega
  have e:((48+(x:Int))%256)=(48+x:Nat):=by omega
  simp +contextual -implicitDefEqProofs only[go_sem,↓reduceIte,c,c',Z6,e]
  first|done|(refine⟨?_,trivial⟩;congr 1;omega)|(congr 1;omega)|omega
 ·have c':¬(x:Int)<10:=by omega
  simp +contextual -implicitDefEqProofs only[go_sem,↓reduceIte,c,c',Z6]
  first|done|(refine⟨?_,trivial⟩;congr 1;omega)|(congr 1;omega)|omega
theorem Vm (T:World) (h:Hp) (k:Int) (hk:1≤k∧k≤9):Ze Tryd.prog T 27 #[.int .i64 k] h fun v' h'=>v'=YN (Z7 k)∧h'=h:=by
 refine Ze.Zn (args:=[_]) Tryd.func27 rfl rfl rfl rfl ?_
 have:k=1∨k=2∨k=3∨k=4∨k=5∨k=6∨k=7∨k=8∨k=9:=by omega
 rcases this with rfl|rfl|rfl|rfl|rfl|rfl|rfl|rfl|rfl<;>(simp +contextual -implicitDefEqProofs only[go_sem,↓reduceIte];first|done|rfl|exact⟨rfl,rfl⟩)
theorem Ra (n:Nat) (h:¬n<10):Lib.decDigits n=Lib.decDigits (n/10)++[UInt8.ofNat (48+n%10)]:=by
 rw[Lib.decDigits,dif_neg h]
theorem Ob:∀(f n:Nat),n≤f→n≤140737488355328→∀(T:World) (h:Hp),Ze Tryd.prog T 28 #[.int .i64 n] h fun v' h'=>v'=.string ⟨(Lib.decDigits n).toArray⟩∧Zg h.size h h':=by
 intro f
 induction f with
 | zero=>
  intro n hn _ T h
  obtain rfl:n=0:=by omega
  refine Ze.Zn (args:=[_]) Tryd.func28 rfl rfl rfl rfl ?_
  simp +contextual -implicitDefEqProofs only[go_sem,↓reduceIte]
  refine Ya Tryd.underlying32 Tryd.underlying9 Tryd.underlying5 (Bs.one (x:=48) (by omega) 1) ?_
  simp +contextual -implicitDefEqProofs only[go_sem,↓reduceIte]
  rw[Lib.decDigits_one (by omega)];rfl
 | succ f ih=>
  intro n hn hb T h
  refine Ze.Zn (args:=[_]) Tryd.func28 rfl rfl rfl rfl ?_
  by_cases c:n<10
  ·have c':(n:Int)<10:=by omega
   have e:((48+(n:Int))%256)=(48+n:Nat):=by omega
   simp +contextual -implicitDefEqProofs only[go_sem,↓reduceIte,c',e]
   refine Ya Tryd.underlying32 Tryd.underlying9 Tryd.underlying5 (Bs.one (x:=48+n) (by omega) 1) ?_
   simp +contextual -implicitDefEqProofs only[go_sem,↓reduceIte]
   rw[Lib.decDigits_one c];rfl
  ·have c':¬(n:Int)<10:=by omega
   have eM:(n:Int).tmod 10=(n%10:Nat):=by rw[Int.tmod_eq_emod_of_nonneg (by omega)];omega
   have e:((48+((n%10:Nat):Int))%256)=(48+n%10:Nat):=by omega
   have e2:(n:Int).tdiv 10=(n/10:Nat):=by rw[Int.tdiv_eq_ediv_of_nonneg (by omega)];omega
   simp +contextual -implicitDefEqProofs only[go_sem,↓reduceIte,c']
   refine VS.w (h.size) [] (.q 0 (.q 1 (.q 3 (.q 4 (.q 5 (.q 6 (.or 2 (.s 7 (.s 8 (.q 9 (.q 10 .nil)))) (.s 7 (.or 2 (.s 8 (.q 9 (.q 10 .nil))) (.s 8 (.s 2 (.q 9 (.q 10 .nil))))))))))))) mixed (by kernel_rfl) ?_
   simp -implicitDefEqProofs only[go_sem,↓reduceIte,e,e2,eM]
   have Oc:∀u:List UInt8,u=Lib.decDigits (n/10)→u.length≤100→u++[UInt8.ofNat (48+n%10)]=Lib.decDigits n:=fun u hu _=>by rw[hu,←Ra n c]
   have hlen:(Lib.decDigits (n/10)).length≤21:=by
    have:=Lib.itoa_length_le ((n/10:Nat):Int) (by omega) (by omega)
    rwa [Lib.itoa_nonneg]at this
   refine⟨(ih (n/10) (by omega) (by omega) T h).use ?_,?_⟩
   ·rintro _ h1 ⟨rfl,b1⟩
    simp -implicitDefEqProofs only[go_sem,↓reduceIte,e,e2,eM]
    refine⟨b1,b1.JA (by have:=b1.size;omega) _,Ya Tryd.underlying32 Tryd.underlying9 Tryd.underlying5 (Bs.one (x:=48+n%10) (by omega) 1) ?_⟩
    simp -implicitDefEqProofs only[go_sem,↓reduceIte,e,e2,eM]
    refine⟨b1.JA (by have:=b1.size;omega) _,_,fun h'=>YD (u:=Lib.decDigits (n/10)) (v:=[UInt8.ofNat (48+n%10)]) (by simp;omega) ⟨rfl,rfl⟩,?_⟩
    rw[Oc _ rfl (by omega)]
    unfold ap
    simp -implicitDefEqProofs only[go_sem,↓reduceIte]
    exact b1.JA (by have:=b1.size;omega) _
   ·refine⟨(ih (n/10) (by omega) (by omega) T _).use ?_,Ya Tryd.underlying32 Tryd.underlying9 Tryd.underlying5 (Bs.one (x:=48+n%10) (by omega) 1) ?_⟩
    ·rintro _ h1 ⟨rfl,b1⟩
     have bh:Zg h.size h h1:=((Zg.refl h.size h).add _).trans (b1.mono (by simp))
     have bs:=(Bs.one (h:=h) (E:=5) (x:=48+n%10) (by omega) 1).ZZ b1
     simp -implicitDefEqProofs only[go_sem,↓reduceIte,e,e2,eM]
     refine⟨bh,Ya Tryd.underlying32 Tryd.underlying9 Tryd.underlying5 bs ?_⟩
     simp -implicitDefEqProofs only[go_sem,↓reduceIte,e,e2,eM]
     refine⟨bh,_,fun h'=>YD (u:=Lib.decDigits (n/10)) (v:=[UInt8.ofNat (48+n%10)]) (by simp;omega) ⟨rfl,rfl⟩,?_⟩
     rw[Oc _ rfl (by omega)]
     unfold ap
     simp -implicitDefEqProofs only[go_sem,↓reduceIte]
     exact bh
    ·have bh:∀o,Zg h.size h (h.push o):=fun o=>(Zg.refl _ _).add _
     simp -implicitDefEqProofs only[go_sem,↓reduceIte,e,e2,eM]
     refine (ih (n/10) (by omega) (by omega) T _).use ?_
     rintro _ h1 ⟨rfl,b1⟩
     have KX:Zg h.size h h1:=(bh _).trans (b1.mono (by simp))
     simp -implicitDefEqProofs only[go_sem,↓reduceIte,e,e2,eM]
     refine⟨KX,_,fun h'=>YD (u:=Lib.decDigits (n/10)) (v:=[UInt8.ofNat (48+n%10)]) (by simp;omega) ⟨rfl,rfl⟩,?_⟩
     rw[Oc _ rfl (by omega)]
     unfold ap
     simp -implicitDefEqProofs only[go_sem,↓reduceIte]
     exact KX
def XY (k n a b:Int) (d:List Nat):List Nat:=Z7 k++(if Zf k then 32 :: YS n else [])++(if Zm k then 32 :: YS a else [])++(if k=8 then 32 :: YS b else [])++(if k=1 then 32 :: Ym d else [])
theorem Rb {k n a b:Int} {d:List Nat} (hk:1≤k∧k≤9):XW k n a b d=XY k n a b d++[10]:=by
 have:k=1∨k=2∨k=3∨k=4∨k=5∨k=6∨k=7∨k=8∨k=9:=by omega
 rcases this with rfl|rfl|rfl|rfl|rfl|rfl|rfl|rfl|rfl<;>simp[XW,XY,slotsOf,Xw,Zf,Zm,Zz]
theorem Yy (v:Int):∀x∈YS v,x<256:=fun x hx=>Je v x (List.mem_cons_of_mem _ hx)
theorem YO (v:Int) (h0:0≤v) (h1:v≤1048576):(YS v).length≤21:=by
 unfold YS;rw[List.length_map];exact Lib.itoa_length_le v (by omega) (by omega)
theorem XZ (T:World) (h:Hp) (v:Int) (h0:0≤v) (h1:v≤1048576):Ze Tryd.prog T 28 #[.int .i64 v] h fun v' h'=>v'=.string ⟨((YS v).map UInt8.ofNat).toArray⟩∧Zg h.size h h':=by
 obtain⟨m,rfl⟩:∃m:Nat,v=m:=⟨v.toNat,by omega⟩
 refine (Ob m m (Nat.le_refl _) (by omega) T h).mono ?_
 rintro _ h' ⟨rfl,b⟩
 refine⟨?_,b⟩
 unfold YS
 rw[Lib.itoa_nonneg]
 simp[List.map_map,Function.comp_def]
theorem Vn (T:World) (h:Hp) (k n a b:Int) (p:Option Addr) (c:Nat) (d:List Nat) (hk:1≤k∧k≤9) (s:Bs h (.slice p d.length c) d) (hd:d.length≤2000) (XX:∀x∈slotsOf k,ZO k n a b x) :
  Ze Tryd.prog T 17 #[.agg (Zy k n a b (.slice p d.length c)).toArray] h fun v' h'=>Xg h.size 5 h' v' (XY k n a b d)∧Zg h.size h h':=by
 refine Ze.Zn (args:=[_]) Tryd.func17 rfl rfl rfl rfl ?_
 unfold Zy
 simp +contextual -implicitDefEqProofs only[go_sem,↓reduceIte]
 refine (Vm T _ k hk).pure ?_
 unfold YN
 simp +contextual -implicitDefEqProofs only[go_sem,↓reduceIte]
 have wb:(∀x∈Z7 k,x<256)∧(Z7 k).length≤6:=by
  unfold Z7
  have h9:∀j,j<10→(∀x∈Y5.getD j [],x<256)∧(Y5.getD j []).length≤6:=by decide
  exact h9 _ (by omega)
 obtain⟨A,hA⟩:=X2 (Obj.cells (Zy k n a b (.slice p d.length c)).toArray 34)
 unfold Zy at hA
 rw[←hA]
 have a0:(h.push A)[h.size]? = some (.cells (Zy k n a b (.slice p d.length c)).toArray 34):=by rw[Zq,hA];rfl
 refine ZX (E:=5) (B:=h.size+1) Yc Tryd.underlying9 U4 U6 U5 (Xg.nil _ _ _) (by simp) wb.1 (by simp;omega) ?_
 intro v1 g1 o1 b1 _ _
 rw[List.nil_append]at o1
 have k1:=b1.get (by omega) a0
 have y0:hc g1 ⟨h.size,0,none⟩=some (.int .i64 k):=by rw[Zk k1];rfl
 simp +contextual -implicitDefEqProofs only[go_sem,↓reduceIte,y0]
 refine (VK T _ k).pure ?_
 have e1:Zg h.size h g1:=((Zg.refl _ _).add _).trans (b1.mono (by omega))
 have:k=1∨(k=2∨k=3∨k=9)∨(k=4∨k=5∨k=6)∨k=7∨k=8:=by omega
 rcases this with rfl|q|q|rfl|rfl
 ·have m1:Zf 1:=by unfold Zf;omega
  have m2:¬Zm 1:=by unfold Zm;omega
  have m3:¬(1:Int)=8:=by omega
  have Mm:0≤n∧n≤4:=Decidable.byContradiction fun e=>Z5 XX (.inl ⟨m1,e⟩)
  simp +contextual -implicitDefEqProofs only[go_sem,↓reduceIte,m1,m2,m3,y0]
  refine Zr (E:=5) (B:=h.size+1) Yc Tryd.underlying32 U4 U6 U5 (o1.push _) (by have:=Zb k1;simp;omega) (Bs.one (x:=32) (by omega) 1) (by simp only[List.length_append,List.length_cons,List.length_nil];omega) ?_
  intro L0 Vo Od Rc _ _
  have Qg:=Rc.get (by omega) ((Zu (Zb k1)).trans k1)
  have Oe:Zg h.size h Vo:=(e1.add _).trans (Rc.mono (by omega))
  have Of:hc Vo ⟨h.size,1,none⟩=some (.int .i64 n):=by rw[Zk Qg];rfl
  simp +contextual -implicitDefEqProofs only[go_sem,↓reduceIte,Of,m1,m2,m3]
  refine (XZ T Vo n (by omega) (by omega)).use ?_
  rintro _ G1 ⟨rfl,B1⟩
  simp +contextual -implicitDefEqProofs only[go_sem,↓reduceIte,m1,m2,m3]
  have l1:=YO n (by omega) (by omega)
  refine ZX (E:=5) (B:=h.size+1) Yc Tryd.underlying9 U4 U6 U5 (Od.ZZ B1 (Nat.le_refl _)) (by have:=Zb Qg;have:=B1.size;omega) (Yy _) (by simp only[List.length_append,List.length_cons,List.length_nil];omega) ?_
  intro v2 g2 o2 b2 _ _
  have k2:=b2.get (by omega) (B1.get (Zb Qg) Qg)
  have e2:Zg h.size h g2:=(Oe.trans (B1.mono (by have:=Zb Qg;omega))).trans (b2.mono (by omega))
  have y2:hc g2 ⟨h.size,0,none⟩=some (.int .i64 1):=by rw[Zk k2];rfl
  simp +contextual -implicitDefEqProofs only[go_sem,↓reduceIte,m1,m2,m3,y2]
  refine Zr (E:=5) (B:=h.size+1) Yc Tryd.underlying32 U4 U6 U5 (o2.push _) (by have:=Zb k2;simp;omega) (Bs.one (x:=32) (by omega) 1) (by simp only[List.length_append,List.length_cons,List.length_nil];omega) ?_
  intro v3 g3 o3 b3 _ _
  have k3:=b3.get (by omega) ((Zu (Zb k2)).trans k2)
  have e3:Zg h.size h g3:=(e2.add _).trans (b3.mono (by omega))
  simp +contextual -implicitDefEqProofs only[go_sem,↓reduceIte,m1,m2,m3]
  obtain⟨pre,Vl⟩:=X2 (Z7 1++[32]++YS n++[32])
  rw[←Vl]at o3
  refine VS.XL (fun F g=>Zg h.size h g∧g[h.size]? = some (.cells (Zy 1 n a b (.slice p d.length c)).toArray 34)∧F 1=.pointer (some ⟨h.size,0,none⟩)∧∃i:Nat,i≤d.length∧F 7=.int .i64 i∧∃w,F 3=w∧Xg (h.size+1) 5 g w (pre++Ym (d.take i)))
   (fun F _=>d.length-(vi (F 7)).toNat) rfl ⟨e3,k3,rfl,0,by omega,rfl,v3,rfl,by simpa [Ym] using o3⟩ ?_
  rintro F g ⟨eg,kg,f1,i,hi,f7,w,f3,ow⟩
  have y4:hc g ⟨h.size,4,none⟩=some (.slice p d.length c):=by rw[Zk kg];rfl
  by_cases Zs:i<d.length
  ·have YH:(i:Int)<d.length:=by omega
   have sg:=s.ZZ eg
   have LY:=s.byte
   have r1:∃bb oo,p=some ⟨bb,oo,none⟩∧bb<h.size∧hc h ⟨bb,oo+i,none⟩=some (bv (d.getD i 0)):=by
    obtain⟨p',c',hv,Ye⟩:=s.Po
    simp only[Value.slice.injEq]at hv
    obtain⟨rfl,_,_⟩:=hv
    obtain⟨bb,oo,hp,Up,Ye⟩:=Ye (by intro e;rw[e]at Zs;simp at Zs)
    exact⟨bb,oo,hp,Up,Ye i Zs⟩
   obtain⟨bb,oo,rfl,Up,r0⟩:=r1
   have r1:hc g ⟨bb,oo+i,none⟩=some (bv (d.getD i 0)):=by rw[eg.hc Up];exact r0
   have hx:d.getD i 0<256:=by
    rw[List.getD_eq_getElem?_getD,List.getElem?_eq_getElem Zs];exact LY _ (List.getElem_mem Zs)
   obtain⟨x,VJ⟩:=X2 (d.getD i 0)
   rw[←VJ]at r1 hx
   unfold bv at r1
   have q1:(x:Int).tdiv 16=(x/16:Nat):=by rw[Int.tdiv_eq_ediv_of_nonneg (by omega)];omega
   have q2:(x:Int).tmod 16=(x%16:Nat):=by rw[Int.tmod_eq_emod_of_nonneg (by omega)];omega
   simp +contextual -implicitDefEqProofs only[go_sem,↓reduceIte,f1,f7,y4,YH]
   refine VS.w ((h.size+1)) [] (.q 0 (.q 1 (.q 2 (.q 3 (.q 4 (.q 5 (.q 6 (.q 7 (.q 9 (.q 10 (.q 11 (.q 12 (.q 13 (.q 14 (.q 15 (.s 8 (.s 16 (.s 17 (.s 18 (.q 19 .nil)))))))))))))))))))) mixed (by kernel_rfl) ?_
   simp -implicitDefEqProofs only[go_sem,↓reduceIte,f1,f3,f7,y4,r1,YH,q1,q2]
   have N3:∀y,y<16→Z6 y<256:=fun y hy=>by unfold Z6;split<;>omega
   refine (Jv T _ (x/16) (by omega)).pure ?_
   simp -implicitDefEqProofs only[go_sem,↓reduceIte,f1,f3,f7,y4,r1,YH,q1,q2]
   refine (Jv T _ (x%16) (by omega)).pure ?_
   simp -implicitDefEqProofs only[go_sem,↓reduceIte,f1,f3,f7,y4,r1,YH,q1,q2]
   have Gd:=Zb kg
   have MV:∀l:List Nat,(Ym l).length=2*l.length:=by
    intro l;induction l with
    | nil=>rfl
    | cons y l ih=>
     have e:Ym (y :: l)=[Z6 (y/16),Z6 (y%16)]++Ym l:=by simp[Ym]
     rw[e,List.length_append,ih];simp only[List.length_cons,List.length_nil];omega
   have hh:=MV (d.take i)
   rw[List.length_take]at hh
   have l1:=YO n (by omega) (by omega)
   have N1:pre.length≤100:=by rw[Vl];simp only[List.length_append,List.length_cons,List.length_nil];omega
   refine⟨(Zg.refl _ _).JA (by omega) _,Zr (E:=5) (B:=h.size+1) Yc Tryd.underlying32 U4 U6 U5 (ow.push _) (by simp;omega) (Bs.made (l:=[Z6 (x/16),Z6 (x%16)]) (by
    intro y hy
    simp only[List.mem_cons,List.not_mem_nil,or_false]at hy
    rcases hy with rfl|rfl
    ·exact N3 _ (by omega)
    ·exact N3 _ (by omega)) 2) (by simp only[List.length_append,List.length_cons,List.length_nil];omega) ?_⟩
   intro v4 g4 o4 b4 _ _
   have c4:Zg (h.size+1) g g4:=((Zg.refl (h.size+1) g).JA (by omega) _).trans b4
   have k4:=c4.get (by omega) kg
   simp -implicitDefEqProofs only[go_sem,↓reduceIte,f1,f3,f7]
   refine⟨c4,?_⟩
   refine⟨⟨eg.trans (c4.mono (by omega)),k4,f1,i+1,by omega,rfl,v4,rfl,?_⟩,?_⟩
   ·have e:Ym (d.take (i+1))=Ym (d.take i)++[Z6 (x/16),Z6 (x%16)]:=by
     rw[ZH _ i Zs]
     have e2:d[i]=x:=by rw[VJ,List.getD_eq_getElem?_getD,List.getElem?_eq_getElem Zs];rfl
     rw[e2]
     simp[Ym]
    rw[e,←List.append_assoc]
    exact o4
   ·simp only[vi,ZG,↓reduceIte,f7];omega
  ·have Jc:¬(i:Int)<d.length:=by omega
   obtain rfl:i=d.length:=by omega
   rw[List.take_length]at ow
   simp +contextual -implicitDefEqProofs only[go_sem,↓reduceIte,f1,f3,f7,y4,Jc]
   refine⟨?_,eg⟩
   have:=ow.mono (B':=h.size) (by omega)
   simpa [XY,m1,m2,m3,Vl,List.append_assoc] using this
 ·have m1:Zf k:=by unfold Zf;omega
  have m2:¬Zm k:=by unfold Zm;omega
  have m3:¬k=8:=by omega
  have m4:¬k=1:=by omega
  have Mm:0≤n∧n≤4:=Decidable.byContradiction fun e=>Z5 XX (.inl ⟨m1,e⟩)
  simp +contextual -implicitDefEqProofs only[go_sem,↓reduceIte,m1,m2,m3,m4,y0]
  refine Zr (E:=5) (B:=h.size+1) Yc Tryd.underlying32 U4 U6 U5 (o1.push _) (by have:=Zb k1;simp;omega) (Bs.one (x:=32) (by omega) 1) (by simp only[List.length_append,List.length_cons,List.length_nil];omega) ?_
  intro L0 Vo Od Rc _ _
  have Qg:=Rc.get (by omega) ((Zu (Zb k1)).trans k1)
  have Oe:Zg h.size h Vo:=(e1.add _).trans (Rc.mono (by omega))
  have Of:hc Vo ⟨h.size,1,none⟩=some (.int .i64 n):=by rw[Zk Qg];rfl
  simp +contextual -implicitDefEqProofs only[go_sem,↓reduceIte,Of,m1,m2,m3,m4]
  refine (XZ T Vo n (by omega) (by omega)).use ?_
  rintro _ G1 ⟨rfl,B1⟩
  simp +contextual -implicitDefEqProofs only[go_sem,↓reduceIte,m1,m2,m3,m4]
  have l1:=YO n (by omega) (by omega)
  refine ZX (E:=5) (B:=h.size+1) Yc Tryd.underlying9 U4 U6 U5 (Od.ZZ B1 (Nat.le_refl _)) (by have:=Zb Qg;have:=B1.size;omega) (Yy _) (by simp only[List.length_append,List.length_cons,List.length_nil];omega) ?_
  intro v2 g2 o2 b2 _ _
  have k2:=b2.get (by omega) (B1.get (Zb Qg) Qg)
  have e2:Zg h.size h g2:=(Oe.trans (B1.mono (by have:=Zb Qg;omega))).trans (b2.mono (by omega))
  have y2:hc g2 ⟨h.size,0,none⟩=some (.int .i64 k):=by rw[Zk k2];rfl
  simp +contextual -implicitDefEqProofs only[go_sem,↓reduceIte,m1,m2,m3,m4,y2]
  refine⟨?_,e2⟩
  have:=o2.mono (B':=h.size) (by omega)
  simpa [XY,m1,m2,m3,m4,List.append_assoc] using this
 ·have m1:¬Zf k:=by unfold Zf;omega
  have m2:Zm k:=by unfold Zm;omega
  have m3:¬k=8:=by omega
  have m4:¬k=1:=by omega
  have Mm:0≤a∧a≤1048576:=Decidable.byContradiction fun e=>Z5 XX (.inr (.inl ⟨m2,e⟩))
  simp +contextual -implicitDefEqProofs only[go_sem,↓reduceIte,m1,m2,m3,m4,y0]
  refine Zr (E:=5) (B:=h.size+1) Yc Tryd.underlying32 U4 U6 U5 (o1.push _) (by have:=Zb k1;simp;omega) (Bs.one (x:=32) (by omega) 1) (by simp only[List.length_append,List.length_cons,List.length_nil];omega) ?_
  intro L0 Vo Od Rc _ _
  have Qg:=Rc.get (by omega) ((Zu (Zb k1)).trans k1)
  have Oe:Zg h.size h Vo:=(e1.add _).trans (Rc.mono (by omega))
  have Of:hc Vo ⟨h.size,2,none⟩=some (.int .i64 a):=by rw[Zk Qg];rfl
  simp +contextual -implicitDefEqProofs only[go_sem,↓reduceIte,Of,m1,m2,m3,m4]
  refine (XZ T Vo a (by omega) (by omega)).use ?_
  rintro _ G1 ⟨rfl,B1⟩
  simp +contextual -implicitDefEqProofs only[go_sem,↓reduceIte,m1,m2,m3,m4]
  have l1:=YO a (by omega) (by omega)
  refine ZX (E:=5) (B:=h.size+1) Yc Tryd.underlying9 U4 U6 U5 (Od.ZZ B1 (Nat.le_refl _)) (by have:=Zb Qg;have:=B1.size;omega) (Yy _) (by simp only[List.length_append,List.length_cons,List.length_nil];omega) ?_
  intro v2 g2 o2 b2 _ _
  have k2:=b2.get (by omega) (B1.get (Zb Qg) Qg)
  have e2:Zg h.size h g2:=(Oe.trans (B1.mono (by have:=Zb Qg;omega))).trans (b2.mono (by omega))
  have y2:hc g2 ⟨h.size,0,none⟩=some (.int .i64 k):=by rw[Zk k2];rfl
  simp +contextual -implicitDefEqProofs only[go_sem,↓reduceIte,m1,m2,m3,m4,y2]
  refine⟨?_,e2⟩
  have:=o2.mono (B':=h.size) (by omega)
  simpa [XY,m1,m2,m3,m4,List.append_assoc] using this
 ·have m1:¬Zf 7:=by unfold Zf;omega
  have m2:¬Zm 7:=by unfold Zm;omega
  have m3:¬(7:Int)=8:=by omega
  have m4:¬(7:Int)=1:=by omega
  simp +contextual -implicitDefEqProofs only[go_sem,↓reduceIte,m1,m2,m3,m4,y0]
  refine⟨?_,e1⟩
  have:=o1.mono (B':=h.size) (by omega)
  simpa [XY,m1,m2,m3,m4,List.append_assoc] using this
 ·have m1:Zf 8:=by unfold Zf;omega
  have m2:¬Zm 8:=by unfold Zm;omega
  have m4:¬(8:Int)=1:=by omega
  have Mm:0≤n∧n≤4:=Decidable.byContradiction fun e=>Z5 XX (.inl ⟨m1,e⟩)
  have Ge:0≤b∧b≤100000:=Decidable.byContradiction fun e=>Z5 XX (.inr (.inr ⟨rfl,e⟩))
  simp +contextual -implicitDefEqProofs only[go_sem,↓reduceIte,m1,m2,m4,y0]
  refine Zr (E:=5) (B:=h.size+1) Yc Tryd.underlying32 U4 U6 U5 (o1.push _) (by have:=Zb k1;simp;omega) (Bs.one (x:=32) (by omega) 1) (by simp only[List.length_append,List.length_cons,List.length_nil];omega) ?_
  intro L0 Vo Od Rc _ _
  have Qg:=Rc.get (by omega) ((Zu (Zb k1)).trans k1)
  have Oe:Zg h.size h Vo:=(e1.add _).trans (Rc.mono (by omega))
  have Of:hc Vo ⟨h.size,1,none⟩=some (.int .i64 n):=by rw[Zk Qg];rfl
  simp +contextual -implicitDefEqProofs only[go_sem,↓reduceIte,Of,m1,m2,m4]
  refine (XZ T Vo n (by omega) (by omega)).use ?_
  rintro _ G1 ⟨rfl,B1⟩
  simp +contextual -implicitDefEqProofs only[go_sem,↓reduceIte,m1,m2,m4]
  have l1:=YO n (by omega) (by omega)
  refine ZX (E:=5) (B:=h.size+1) Yc Tryd.underlying9 U4 U6 U5 (Od.ZZ B1 (Nat.le_refl _)) (by have:=Zb Qg;have:=B1.size;omega) (Yy _) (by simp only[List.length_append,List.length_cons,List.length_nil];omega) ?_
  intro v2 g2 o2 b2 _ _
  have k2:=b2.get (by omega) (B1.get (Zb Qg) Qg)
  have e2:Zg h.size h g2:=(Oe.trans (B1.mono (by have:=Zb Qg;omega))).trans (b2.mono (by omega))
  have y2:hc g2 ⟨h.size,0,none⟩=some (.int .i64 8):=by rw[Zk k2];rfl
  simp +contextual -implicitDefEqProofs only[go_sem,↓reduceIte,m1,m2,m4,y2]
  refine Zr (E:=5) (B:=h.size+1) Yc Tryd.underlying32 U4 U6 U5 (o2.push _) (by have:=Zb k2;simp;omega) (Bs.one (x:=32) (by omega) 1) (by simp only[List.length_append,List.length_cons,List.length_nil];omega) ?_
  intro Gf L1 Hm KY _ _
  have N4:=KY.get (by omega) ((Zu (Zb k2)).trans k2)
  have Hn:Zg h.size h L1:=(e2.add _).trans (KY.mono (by omega))
  have Ho:hc L1 ⟨h.size,3,none⟩=some (.int .i64 b):=by rw[Zk N4];rfl
  simp +contextual -implicitDefEqProofs only[go_sem,↓reduceIte,Ho,m1,m2,m4]
  refine (XZ T L1 b (by omega) (by omega)).use ?_
  rintro _ G2 ⟨rfl,B2⟩
  simp +contextual -implicitDefEqProofs only[go_sem,↓reduceIte,m1,m2,m4]
  have l2:=YO b (by omega) (by omega)
  refine ZX (E:=5) (B:=h.size+1) Yc Tryd.underlying9 U4 U6 U5 (Hm.ZZ B2 (Nat.le_refl _)) (by have:=Zb N4;have:=B2.size;omega) (Yy _) (by simp only[List.length_append,List.length_cons,List.length_nil];omega) ?_
  intro v3 g3 o3 b3 _ _
  have k3:=b3.get (by omega) (B2.get (Zb N4) N4)
  have e3:Zg h.size h g3:=(Hn.trans (B2.mono (by have:=Zb N4;omega))).trans (b3.mono (by omega))
  have y3:hc g3 ⟨h.size,0,none⟩=some (.int .i64 8):=by rw[Zk k3];rfl
  simp +contextual -implicitDefEqProofs only[go_sem,↓reduceIte,m1,m2,m4,y3]
  refine⟨?_,e3⟩
  have:=o3.mono (B':=h.size) (by omega)
  simpa [XY,m1,m2,m4,List.append_assoc] using this
theorem N5:Tryd.prog.globalNamed "internal/strconv.uint64pow10" = some 4:=by kernel_rfl
theorem N6:(Tryd.prog.globals[4]?).map (·.type)=some 104:=by kernel_rfl
theorem R3:(Rows.laid_internal_strconv_uint64pow10:DataW Unit)=Lib.tabData .u64 Lib.pow10Tab:=by kernel_rfl
theorem Og {W:World} (h:laidMetH Tryd.prog Rows.linesShowsRow.laid W):Xk W.heap:=by
 rw[Go.MakeChecks.laidMetH_plain _ _ _ (by kernel_rfl)]at h
 have h2:=h.filter (fun x=>x.1 == "internal/strconv.uint64pow10")
 have e:(Rows.linesShowsRow.laid.filter fun x=>x.1 == "internal/strconv.uint64pow10")=[("internal/strconv.uint64pow10", Lib.tabData .u64 Lib.pow10Tab)]:=by
  rw[←R3];rfl
 rw[e]at h2
 have h3:=Lib.tabIs_of_head (rest:=[]) N5 N6 Tryd.underlying104 Tryd.underlying89 (by kernel_rfl) (by kernel_rfl) h2
 unfold Lib.TabIs World.var? at h3
 rw[N5,Option.bind_some]at h3
 unfold Xk
 split at h3
 ·rename_i cs t fr hb
  exact⟨t,fr,by rw[hb];simp only[Option.some.injEq]at h3;rw[h3]⟩
 ·cases h3
theorem QC {H:Type} {enc:TypeId × Value→H} {P:Program} {w:World} {base:Nat} {sp:Nat→Bool} {held:Bool} {fuel:Nat} {t e:TypeId} {n:Nat} {cs:List Value} {zs:List (List UInt8)} {p:List MemPlace}
  (ht:P.underlying t=some (.array n e)) (he:P.underlying e=some .string) (Kh:P.cellsOf e=1) (Hq:P.cellsOf t=n)
  (h:DataW.trod enc P w base sp held fuel t cs=some (.agg (zs.map fun z=>.lit (.string z)),p)):cs=zs.map fun z=>Value.string ⟨z.toArray⟩:=by
 cases fuel with
 | zero=>simp[DataW.trod]at h
 | succ fuel=>
  simp only[DataW.trod,ht,Kh,Hq,Nat.mul_one]at h
  split at h
  ·rename_i hl
   obtain⟨xs,hm,hx⟩:=Option.map_eq_some_iff.1 h
   have MM:xs.map (·.1)=zs.map fun z=>(DataW.lit (.string z):DataW H):=by
    have:=congrArg Prod.fst hx
    simpa using this
   have Oh:xs.length=n:=by simpa using Lib.mapM_length hm
   have VW:zs.length=n:=by
    have:=congrArg List.length MM
    simp at this
    omega
   apply List.ext_getElem?
   intro i
   by_cases hi:i<n
   ·obtain⟨b,hb,hf⟩:=Lib.mapM_at hm i i (by simp[hi])
    obtain⟨z,hc,rfl,_⟩:=DataW.trod_string he hf
    have h1:cs[i]? = some (.string z):=by
     have:=congrArg (·[0]?) hc
     simpa [List.getElem?_take,List.getElem?_drop] using this
    have h2:(xs.map (·.1))[i]? = some (DataW.lit (.string z.data.toList):DataW H):=by simp[hb]
    rw[MM]at h2
    simp only[List.getElem?_map,Option.map_eq_some_iff,DataW.lit.injEq,Lit.string.injEq]at h2
    obtain⟨z',OS,h3⟩:=h2
    rw[h1,List.getElem?_map,OS,Option.map_some,h3]
   ·rw[List.getElem?_eq_none (by omega),List.getElem?_eq_none (by simp;omega)]
  ·cases h
theorem N7:Tryd.prog.globalNamed "conclave/lines.words" = some 0:=by kernel_rfl
theorem N8:(Tryd.prog.globals[0]?).map (·.type)=some 59:=by kernel_rfl
theorem R4:(Rows.laid_conclave_lines_words:DataW Unit)=.agg ((Y5.map fun l=>l.map UInt8.ofNat).map fun z=>.lit (.string z)):=by rfl
theorem Oi {W:World} (h:laidMetH Tryd.prog Rows.linesShowsRow.laid W):Words W.heap:=by
 rw[Go.MakeChecks.laidMetH_plain _ _ _ (by kernel_rfl)]at h
 have h2:=h.filter (fun x=>x.1 == "conclave/lines.words")
 have e:(Rows.linesShowsRow.laid.filter fun x=>x.1 == "conclave/lines.words")=[("conclave/lines.words", .agg ((Y5.map fun l=>l.map UInt8.ofNat).map fun z=>.lit (.string z)))]:=by
  rw[←R4];rfl
 rw[e]at h2
 obtain⟨ps,⟨g',t',cs,fuel,p,q,Hr,Hs,TL,hd,_,_⟩,_⟩:=h2
 obtain rfl:=Option.some.inj (N7.symm.trans Hr)
 obtain rfl:=Option.some.inj (N8.symm.trans Hs)
 have Ye:=QC Tryd.underlying59 Tryd.underlying9 (by kernel_rfl) (by kernel_rfl) hd
 unfold World.var? at TL
 rw[N7,Option.bind_some]at TL
 split at TL
 ·rename_i c2 t2 fr hb
  have M4:c2.toList=cs.toList:=by simp only[Option.some.injEq]at TL;rw[TL]
  rw[Ye]at M4
  refine⟨Zb hb,fun k hk=>?_⟩
  rw[YK hb]
  have h5:c2[k]? = (c2.toList)[k]?:=by simp
  rw[h5,M4]
  have h9:k<Y5.length:=hk
  simp[YN,List.getD_eq_getElem?_getD,List.getElem?_eq_getElem h9]
 ·cases TL
inductive Tg where
 | log (i:Nat)
abbrev Ow:=Nat→Option Tg
structure Im (o:Ow) (n:Nat) (h:Hp) (v:Value) (m:Nat) (cs:List Value):Prop where
 sl:Sl n h v m cs
 fits:∃p c,v=.slice p m c∧m≤c
 free:∀b,Zj v=some b→b<h.size∧o b=none
theorem Im.Yl {S:Tg→Prop} {o o':Ow} {n m:Nat} {h h':Hp} {v:Value} {cs:List Value} (s:Im o n h v m cs) (k:Kp S o h o' h'):Im o' n h' v m cs:=by
 obtain⟨⟨p,c,rfl,hl,Ht⟩,⟨p',c',he,hm⟩,hf⟩:=s
 simp only[Value.slice.injEq,true_and]at he
 obtain⟨rfl,rfl⟩:=he
 have O3:∀b,Zj (.slice p m c)=some b→b<h.size∧o b=none∧h'[b]? = h[b]? ∧ o' b=none:=fun b hb=>by
  obtain⟨h1,h2⟩:=hf b hb
  obtain⟨h3,h4⟩:=k.Yl b h1 fun t ht=>by rw[h2]at ht;cases ht
  exact⟨h1,h2,h3,by rw[h4,h2]⟩
 refine⟨⟨p,c,rfl,hl,fun Z1=>?_⟩,⟨p,c,rfl,hm⟩,fun b hb=>⟨Nat.lt_of_lt_of_le (O3 b hb).1 k.size,(O3 b hb).2.2.2⟩⟩
 obtain⟨b,off,rfl,Ye⟩:=Ht Z1
 have M0:c≠0:=by
  intro e
  have:m=0:=by omega
  subst this
  exact Z1 (List.eq_nil_of_length_eq_zero (by simpa using hl))
 have hb:Zj (.slice (some ⟨b,off,none⟩) m c)=some b:=by simp[Zj,M0]
 refine⟨b,off,rfl,fun i hi=>?_⟩
 have:=Ye i hi
 unfold hc at this ⊢
 rw[(O3 b hb).2.2.1]
 exact this
theorem Im.Oj {o:Ow} {B n m:Nat} {E:TypeId} {h:Hp} {v:Value} {cs:List Value} (s:YX B E n h v m cs) (hd:∀b,B≤b→o b=none):Im o n h v m cs:=by
 refine⟨s.sl,?_,fun b hb=>?_⟩
 ·rcases s with⟨⟨p,rfl⟩,rfl,_⟩|⟨b,cap,sp,_,rfl,_,_,_,hm⟩
  ·exact⟨p,0,rfl,Nat.le_refl _⟩
  ·exact⟨_,cap,rfl,hm⟩
 ·exact⟨s.lt b hb,hd b (s.Ph b hb)⟩
def TQ (o:Ow) (h:Hp) (v:Value) (l:List Nat):Prop:=Im o 1 h v l.length (l.map bv)∧∀x∈l,x<256
theorem TQ.bs {o:Ow} {h:Hp} {v:Value} {l:List Nat} (s:TQ o h v l):Bs h v l:=⟨s.1.sl,s.2⟩
theorem TQ.Yl {S:Tg→Prop} {o o':Ow} {h h':Hp} {v:Value} {l:List Nat} (s:TQ o h v l) (k:Kp S o h o' h'):TQ o' h' v l:=⟨s.1.Yl k,s.2⟩
def Ok (t:Tg):Prop:=False
section
variable {S:Tg→Prop} {o o':Ow} {h h':Hp}
theorem Rd (d:Ps o h) (b:Zg h.size h h'):Kp Ok o h o h':=Kp.S2 d b _
theorem Re (k:Kp Ok o h o' h'):Kp S o h o' h':=k.mono fun _ q=>q.elim
theorem VM (d:Ps o h) (x:Obj):Kp Ok o h o (h.push x):=(Kp.refl d _).push x
end
theorem Wa {o:Ow} {h:Hp} {v:Value} {l:List Nat} {k:Nat} (d:Ps o h) (s:TQ o h v l) (hk:k<h.size) (hv:∀b,Zj v=some b→b≠k) (x:Obj):TQ o (h.setIfInBounds k x) v l:=by
 have d2:Ps (U0 o k (Tg.log 7)) h:=fun b hb=>by rw[YQ (by omega)];exact d b hb
 have s2:TQ (U0 o k (Tg.log 7)) h v l:=⟨⟨s.1.sl,s.1.fits,fun b hb=>⟨(s.1.free b hb).1,by rw[YQ (hv b hb)];exact (s.1.free b hb).2⟩⟩,s.2⟩
 have k2:Kp (fun t=>t=Tg.log 7) (U0 o k (Tg.log 7)) h (U0 o k (Tg.log 7)) (h.setIfInBounds k x):=(Kp.refl d2 (fun t=>t=Tg.log 7)).set X9 rfl x
 have s3:=s2.Yl k2
 exact⟨⟨s3.1.sl,s3.1.fits,fun b hb=>⟨(s3.1.free b hb).1,(s.1.free b hb).2⟩⟩,s3.2⟩
theorem J4 {α:Type} (enc:α→List Value) (x:α):Z3 enc [x]=enc x:=by simp[Z3]
structure Raw where
 k:Int
 n:Int
 a:Int
 b:Int
 data:List Nat
def Raw.err (x:Raw):Int:=ZY x.k x.n x.a x.b x.data.length
def Yz (x:Raw × Value):List Value:=Zy x.1.k x.1.n x.1.a x.1.b x.2
theorem Qh (x:Raw × Value):(Yz x).length=5:=rfl
def Zx (xs:List (Raw × Value)):List Raw:=xs.map (·.1)
def N9:Ow:=fun _=>none
theorem Ol (h:Hp):Ps N9 h:=fun _ _=>rfl
theorem Vp {S:Tg→Prop} {h h':Hp} {o':Ow} (k:Kp S N9 h o' h'):Zg h.size h h':=
 ⟨k.size,fun b hb=>(k.Yl b hb fun t ht=>by cases ht).1⟩
theorem Xb {h:Hp} {v:Value} {l:List (Raw × Value)} (s:Ts Yz 5 h v l):∃p c,v=.slice p l.length c∧(l≠[]→∃b o,p=some ⟨b,o,none⟩∧b<h.size∧∀i (hi:i<l.length),rd h ⟨b,o+i*5,none⟩ 5=some (Yz l[i])):=by
 obtain⟨p,c,hv,hh⟩:=s.open Qh (by decide)
 refine⟨p,c,hv,fun Z1=>?_⟩
 obtain⟨b,o,h1,h2,h3⟩:=hh Z1
 exact⟨b,o,h1,h2,fun i hi=>(h3 i hi).rd (by simp[Yz,Zy]) rfl⟩
theorem Qi {h:Hp} {v:Value} {l:List (Raw × Value)} (s:Ts Yz 5 h v l):∃p c,v=.slice p l.length c:=by
 obtain⟨p,c,h,_⟩:=Xb s;exact⟨p,c,h⟩
set_option maxHeartbeats 4000000 in
theorem Rf (T:World) (h:Hp) (v:Value) (xs:List (Raw × Value)) (hv:Ts Yz 5 h v xs) (hx:∀x∈xs,Bs h x.2 x.1.data) (Oh:xs.length≤2513169434916) (L2:∀x∈xs,x.1.data.length≤140737488355328) :
  Ze Tryd.prog T 5 #[v] h fun v' h'=>Zg h.size h h'∧∃ys,Zx ys=Zx xs∧Ts Yz 5 h' v' ys∧∀y∈ys,TQ N9 h' y.2 y.1.data:=by
 obtain⟨p,c,rfl,Ye⟩:=Xb hv
 refine Ze.Zn (args:=[_]) Tryd.func5 rfl rfl rfl rfl ?_
 simp -implicitDefEqProofs only[go_sem,↓reduceIte]
 refine VS.XL (fun F g=>F 0=.slice p xs.length c∧∃(j:Nat) (o:Ow) (ys:List (Raw × Value)),j≤xs.length∧F 4=.int .i64 j∧Kp (fun t=>t=.log 100) N9 h o g∧Zx ys=(Zx xs).take j∧Xv o (.log 100) 34 5 g (F 3) ys.length (Z3 Yz ys)∧∀y∈ys,TQ o g y.2 y.1.data)
  (fun F _=>xs.length-(vi (F 4)).toNat) rfl ⟨rfl,0,N9,[],Nat.zero_le _,rfl,Kp.refl (Ol h) _,rfl,Xv.nil _ _ _ _ _,fun y hy=>by cases hy⟩ ?_
 rintro F2 g2 ⟨f0,j,o2,ys,hj,f4,K2,hr,O2,I2⟩
 have yl:ys.length=j:=by
  have:=congrArg List.length hr
  unfold Zx at this
  simp only[List.length_map,List.length_take]at this
  omega
 obtain⟨p3,c3,f3,_⟩:=O2.isSlice
 by_cases Zs:j<xs.length
 ·have YH:(j:Int)<xs.length:=by omega
  obtain⟨bb,oo,rfl,Up,Om⟩:=Ye (by intro e;rw[e]at Zs;simp at Zs)
  obtain⟨x,Vq⟩:=X2 (xs[j])
  have Uq:x∈xs:=by rw[Vq];exact List.getElem_mem Zs
  have iv:=(hx x Uq).ZZ (Vp K2)
  obtain⟨pd,cd,On,_⟩:=iv.open
  have r1:rd g2 ⟨bb,oo+j*5,none⟩ 5=some (Yz x):=by rw[Q8 (Vp K2) Up,Vq];exact Om j Zs
  unfold Yz Zy at r1
  rw[On]at r1 iv
  obtain⟨g3,R5⟩:=X2 (g2.push (.cells (Zy x.1.k x.1.n x.1.a x.1.b (.slice pd x.1.data.length cd)).toArray 34):Hp)
  have e3:=R5.symm
  have k3:Kp Ok o2 g2 o2 g3:=by rw[R5];exact VM K2.TG _
  have y3:g3[g2.size]? = some (.cells (Zy x.1.k x.1.n x.1.a x.1.b (.slice pd x.1.data.length cd)).toArray 34):=by rw[R5];exact Zq
  have r4:hc g3 ⟨g2.size,4,none⟩=some (.slice pd x.1.data.length cd):=Zk y3
  unfold Zy at e3
  have co:=TI T g3 (.slice pd x.1.data.length cd) x.1.data (iv.ZZ (by rw[R5];exact Zg.push (Nat.le_refl _) _)) (L2 x Uq)
  simp -implicitDefEqProofs only[go_sem,↓reduceIte,f0,f4,YH,r1,e3,r4]
  refine co.use ?_
  rintro v4 g4 ⟨o4,b4⟩
  obtain⟨p4,c4,rfl,_⟩:=o4.bs.open
  have k4:Kp Ok o2 g3 o2 g4:=Rd k3.TG b4
  have y4:=b4.get (Zb y3) y3
  have l4:=Zb y4
  have Hu:TQ o2 g4 (.slice p4 x.1.data.length c4) x.1.data:=⟨Im.Oj o4.own (fun b hb=>k3.TG b hb),o4.byte⟩
  obtain⟨g5,MN⟩:=X2 (g4.setIfInBounds g2.size (.cells (Zy x.1.k x.1.n x.1.a x.1.b (.slice p4 x.1.data.length c4)).toArray 34):Hp)
  have w5:We g4 ⟨g2.size,4,none⟩ (.slice p4 x.1.data.length c4)=some g5:=by rw[JK y4 4 _,MN];rfl
  have y5:g5[g2.size]? = some (.cells (Zy x.1.k x.1.n x.1.a x.1.b (.slice p4 x.1.data.length c4)).toArray 34):=by rw[MN];exact RY y4
  have K5:Kp Ok o2 g2 o2 g5:=by rw[MN];exact (k3.trans k4).P3 (Nat.le_refl _) _
  have Hv:TQ o2 g5 (.slice p4 x.1.data.length c4) x.1.data:=by
   rw[MN]
   refine Wa k4.TG Hu l4 (fun b hb=>?_) _
   have h1:=o4.own.Ph b hb
   have h2:g3.size=g2.size+1:=by rw[R5];simp
   omega
  have r5:rd g5 ⟨g2.size,0,none⟩ 5=some (Zy x.1.k x.1.n x.1.a x.1.b (.slice p4 x.1.data.length c4)):=Ua y5 rfl
  obtain⟨g6,L3⟩:=X2 (g5.push (.cells (Zy x.1.k x.1.n x.1.a x.1.b (.slice p4 x.1.data.length c4)).toArray 34):Hp)
  have e6:=L3.symm
  have k6:Kp Ok o2 g5 o2 g6:=by rw[L3];exact VM K5.TG _
  have x6:g6[g5.size]? = some (.cells (Zy x.1.k x.1.n x.1.a x.1.b (.slice p4 x.1.data.length c4)).toArray 34):=by rw[L3];exact Zq
  have src:Sl 5 g6 (.slice (some ⟨g5.size,0,none⟩) 1 1) 1 (Zy x.1.k x.1.n x.1.a x.1.b (.slice p4 x.1.data.length c4)):=⟨_,1,rfl,rfl,fun _=>⟨g5.size,0,rfl,fun i hi=>by
   rw[Zk x6,Yt,Nat.zero_add];exact List.getElem?_eq_getElem hi⟩⟩
  have O6:=(O2.Yl K5 (fun q=>q)).Yl k6 (fun q=>q)
  rw[f3]at O6
  unfold Zy at r5 e6
  simp -implicitDefEqProofs only[go_sem,↓reduceIte,w5,l4,r5,e6,f3]
  refine Vf (E:=34) (n:=5) (bytes:=56) (k:=1) NQ Tryd.underlying22 Lw Ly rfl Lx O6 k6.TG src rfl (by omega) (by omega) ?_
  intro v7 o7 g7 O7 k7 _
  have k7:Kp (fun u=>u=.log 100) o2 g6 o7 g7:=k7
  simp -implicitDefEqProofs only[go_sem,↓reduceIte,f4]
  unfold Sb
  refine⟨⟨f0,j+1,o7,ys++[(x.1,.slice p4 x.1.data.length c4)],Zs,rfl,((K2.trans (Re K5)).trans (Re k6)).trans k7,?_,?_,fun y hy=>?_⟩,?_⟩
  ·rw[ZH _ j (by unfold Zx;simpa using Zs),←hr]
   unfold Zx
   simp only[List.map_append,List.map_cons,List.map_nil,List.getElem_map,←Vq]
  ·have e:Z3 Yz (ys++[(x.1,.slice p4 x.1.data.length c4)])=Z3 Yz ys++Zy x.1.k x.1.n x.1.a x.1.b (.slice p4 x.1.data.length c4):=by rw[Jp,J4];rfl
   rw[e,List.length_append]
   exact O7
  ·rcases List.mem_append.1 hy with hy|hy
   ·exact (((I2 y hy).Yl K5).Yl k6).Yl k7
   ·have:y=(x.1,.slice p4 x.1.data.length c4):=by simpa using hy
    rw[this]
    exact (Hv.Yl k6).Yl k7
  ·simp only[vi,ZG,↓reduceIte,f4];omega
 have Jc:¬(j:Int)<xs.length:=by omega
 obtain rfl:j=xs.length:=by omega
 rw[List.take_of_length_le (by unfold Zx;simp)]at hr
 simp -implicitDefEqProofs only[go_sem,↓reduceIte,f0,f4,Jc]
 exact⟨Vp K2,ys,hr,⟨O2.sl⟩,fun y hy=>⟨⟨(I2 y hy).1.sl,(I2 y hy).1.fits,fun b hb=>⟨((I2 y hy).1.free b hb).1,rfl⟩⟩,(I2 y hy).2⟩⟩
set_option maxHeartbeats 4000000 in
theorem Wb (T:World) (h:Hp) (u v:Value) (xs ys:List (Raw × Value)) (hu:Ts Yz 5 h u xs) (hv:Ts Yz 5 h v ys) (he:Zx xs=Zx ys) (hx:∀x∈xs,Bs h x.2 x.1.data) (hy:∀y∈ys,Bs h y.2 y.1.data) (Oh:xs.length≤2513169434916) :
  Ze Tryd.prog T 8 #[u,v] h fun v' h'=>v'=.bool true∧Zg h.size h h':=by
 obtain⟨p,c,rfl,Ye⟩:=hu.open Qh (by decide)
 obtain⟨q,d,rfl,Kk⟩:=hv.open Qh (by decide)
 have hl:xs.length=ys.length:=by
  have:=congrArg List.length he
  unfold Zx at this
  simpa using this
 refine Ze.Zn (args:=[_,_]) Tryd.func8 rfl rfl rfl rfl ?_
 rw[←hl]
 simp -implicitDefEqProofs only[go_sem,↓reduceIte]
 refine VS.XL (fun F g=>F 0=.slice p xs.length c∧F 1=.slice q xs.length d∧Zg h.size h g∧∃j:Nat,j≤xs.length∧F 5=.int .i64 j)
  (fun F _=>xs.length-(vi (F 5)).toNat) rfl ⟨rfl,rfl,Zg.refl _ _,0,Nat.zero_le _,rfl⟩ ?_
 rintro F2 g2 ⟨f0,f1,b2,j,hj,f5⟩
 by_cases Zs:j<xs.length
 ·have YH:(j:Int)<xs.length:=by omega
  obtain⟨bb,oo,rfl,Up,Om⟩:=Ye (by intro e;rw[e]at Zs;simp at Zs)
  obtain⟨b3,o3,rfl,KZ,L4⟩:=Kk (by intro e;rw[hl,e]at Zs;simp at Zs)
  obtain⟨x,Vq⟩:=X2 (xs[j])
  obtain⟨y,L5⟩:=X2 (ys[j]'(by omega))
  have Uq:x∈xs:=by rw[Vq];exact List.getElem_mem Zs
  have Hw:y∈ys:=by rw[L5];exact List.getElem_mem _
  have Ma:x.1=y.1:=by
   have h1:(Zx xs)[j]? = some x.1:=by unfold Zx;rw[List.getElem?_map,List.getElem?_eq_getElem Zs,←Vq];rfl
   have h2:(Zx ys)[j]? = some y.1:=by unfold Zx;rw[List.getElem?_map,List.getElem?_eq_getElem (by omega),←L5];rfl
   rw[he,h2]at h1
   exact (Option.some.inj h1).symm
  have L6:=hx x Uq
  have MO:=hy y Hw
  obtain⟨px,cx,K0,_⟩:=L6.open
  obtain⟨py,cy,L7,_⟩:=MO.open
  rw[←Ma]at MO L7
  rw[K0]at L6
  rw[L7]at MO
  have c1:Zp g2 bb (oo+j*5) (Yz x):=by rw[Vq];exact (Om j Zs).ZZ b2 Up
  have c2:Zp g2 b3 (o3+j*5) (Yz y):=by rw[L5];exact (L4 j (by omega)).ZZ b2 KZ
  have a0:hc g2 ⟨bb,oo+j*5,none⟩=some (.int .i64 x.1.k):=c1.hc (i:=0) rfl
  have a1:hc g2 ⟨bb,oo+j*5+1,none⟩=some (.int .i64 x.1.n):=c1.hc (i:=1) rfl
  have a2:hc g2 ⟨bb,oo+j*5+2,none⟩=some (.int .i64 x.1.a):=c1.hc (i:=2) rfl
  have a3:hc g2 ⟨bb,oo+j*5+3,none⟩=some (.int .i64 x.1.b):=c1.hc (i:=3) rfl
  have a4:hc g2 ⟨bb,oo+j*5+4,none⟩=some (.slice px x.1.data.length cx):=by rw[←K0];exact c1.hc (i:=4) rfl
  have d0:hc g2 ⟨b3,o3+j*5,none⟩=some (.int .i64 x.1.k):=by rw[Ma];exact c2.hc (i:=0) rfl
  have d1:hc g2 ⟨b3,o3+j*5+1,none⟩=some (.int .i64 x.1.n):=by rw[Ma];exact c2.hc (i:=1) rfl
  have d2:hc g2 ⟨b3,o3+j*5+2,none⟩=some (.int .i64 x.1.a):=by rw[Ma];exact c2.hc (i:=2) rfl
  have d3:hc g2 ⟨b3,o3+j*5+3,none⟩=some (.int .i64 x.1.b):=by rw[Ma];exact c2.hc (i:=3) rfl
  have d4:hc g2 ⟨b3,o3+j*5+4,none⟩=some (.slice py x.1.data.length cy):=by rw[←L7];exact c2.hc (i:=4) rfl
  have Hx:bb<g2.size:=Nat.lt_of_lt_of_le Up b2.size
  have L8:b3<g2.size:=Nat.lt_of_lt_of_le KZ b2.size
  have sb:=Uj T g2 (.slice px x.1.data.length cx) (.slice py x.1.data.length cy) x.1.data x.1.data (L6.ZZ b2) (MO.ZZ b2)
  simp -implicitDefEqProofs only[go_sem,↓reduceIte,f0,f1,f5,YH]
  refine VS.mono (N:=fun F' g'=>Zg h.size h g'∧F' 0=.slice (some ⟨bb,oo,none⟩) xs.length c∧F' 1=.slice (some ⟨b3,o3,none⟩) xs.length d∧F' 5=.int .i64 j∧F' 80=.bool false) ?_ ?_ (fun _ _ _ h=>h) (fun _ _ h=>h)
  ·refine VS.z (g2.size) [61] (.p 0 (.p 1 (.p 2 (.p 3 (.q 4 (.p 5 (.p 6 (.p 7 (.p 8 (.q 9 (.p 10 (.p 11 (.p 12 (.p 13 (.p 14 (.p 15 (.q 16 (.p 17 (.p 18 (.p 19 (.p 20 (.q 21 (.p 22 (.p 23 (.p 24 (.p 25 (.p 26 (.p 27 (.p 28 (.q 29 (.p 30 (.p 31 (.p 32 (.p 33 (.q 34 (.p 35 (.p 36 (.p 37 (.p 38 (.p 39 (.p 40 (.p 41 (.q 42 (.p 43 (.p 44 (.p 45 (.p 46 (.q 47 (.p 48 (.p 49 (.p 50 (.p 51 (.p 52 (.p 53 (.p 54 (.q 55 (.p 56 (.p 57 (.p 58 (.p 59 (.q 60 (.w 61 (.p 62 (.p 63 .nil)))))))))))))))))))))))))))))))))))))))))))))))))))))))))))))))) mixed (by kernel_rfl) ?_
   simp -implicitDefEqProofs only[go_sem,↓reduceIte,f0,f1,f5,YH,a0,a1,a2,a3,a4,d0,d1,d2,d3,d4,Hx,L8]
   refine sb.use ?_
   rintro _ g3 ⟨rfl,hg⟩
   rw[hg]
   simp -implicitDefEqProofs only[go_sem,↓reduceIte]
   first
    | exact b2
    | exact⟨b2,f0,f1,f5⟩
    | exact⟨b2,f0,f1⟩
    | exact⟨Zg.refl _ _,b2,f0,f1,f5⟩
    | exact⟨Zg.refl _ _,b2⟩
  rintro F3 g3 ⟨Hy,f0,f1,f5,f80⟩
  simp -implicitDefEqProofs only[go_sem,↓reduceIte,f80,f5]
  unfold Sb
  refine⟨⟨f0,f1,Hy,j+1,Zs,rfl⟩,?_⟩
  simp only[vi,ZG,↓reduceIte,f5];omega
 have Jc:¬(j:Int)<xs.length:=by omega
 simp -implicitDefEqProofs only[go_sem,↓reduceIte,f0,f5,Jc]
 exact b2
def YA:List Raw→Nat→Option (Nat × Int)
 | [],_=>none
 | x :: l,i=>if x.err≠0 then some (i,x.err) else YA l (i+1)
theorem Xl {l:List Raw} {j:Nat} (hj:j<l.length) (h0:∀x∈l.take j,x.err=0) (h1:l[j].err≠0):∀i,YA l i=some (i+j,l[j].err):=by
 induction l generalizing j with
 | nil=>simp at hj
 | cons y l ih=>
  intro i
  cases j with
  | zero=>unfold YA;rw[if_pos (by simpa using h1)];rfl
  | succ j=>
   unfold YA
   rw[if_neg (by simpa using h0 y (by simp)),ih (by simpa using hj) (fun x hx=>h0 x (by simp[hx])) (by simpa using h1)]
   simp only[List.getElem_cons_succ]
   rw[show i+1+j=i+(j+1) by omega]
theorem Xm {l:List Raw} (h0:∀x∈l,x.err=0):∀i,YA l i=none:=by
 induction l with
 | nil=>intro _;rfl
 | cons y l ih=>intro i;unfold YA;rw[if_neg (by simpa using h0 y (by simp))];exact ih (fun x hx=>h0 x (by simp[hx])) _
def Raw.line (x:Raw):List Nat:=XW x.k x.n x.a x.b x.data
def Z4 (l:List Raw):List Nat:=(l.map Raw.line).flatten
def Shown (l:List Raw):List Value:=
 if 100000<l.length then [YN [],.int .i64 0,.int .i64 1]
 else match YA l 0 with
  | some (i,e)=>[YN [],.int .i64 i,.int .i64 e]
  | none=>[YN (Z4 l),.int .i64 0,.int .i64 0]
theorem Qj {x:Raw} (h:x.err=0):(1≤x.k∧x.k≤9)∧x.data.length≤2000∧∀y∈slotsOf x.k,ZO x.k x.n x.a x.b y:=by
 unfold Raw.err ZY at h
 by_cases c1:1≤x.k∧x.k≤9
 case neg=>rw[if_pos c1]at h;cases h
 rw[if_neg (by simpa using c1)]at h
 by_cases c2:(Zf x.k∧¬(0≤x.n∧x.n≤4))∨(Zm x.k∧¬(0≤x.a∧x.a≤1048576))∨(x.k=8∧¬(0≤x.b∧x.b≤100000))
 ·rw[if_pos c2]at h;cases h
 rw[if_neg c2]at h
 by_cases c3:2000<x.data.length
 ·rw[if_pos (by omega)]at h;cases h
 refine⟨c1,by omega,fun y hy=>Classical.byContradiction fun hn=>c2 ?_⟩
 unfold slotsOf at hy
 unfold ZO at hn
 unfold Zf Zm
 have av:∀p:Nat,Zz x.k x.n x.a x.b p=[x.k,x.n,x.a,x.b].getD p 0:=fun _=>rfl
 split at hy
 ·obtain rfl:y=(1,4):=by simpa using hy
  have:¬(0≤x.n∧x.n≤4):=hn
  omega
 ·split at hy
  ·obtain rfl:y=(2,1048576):=by simpa using hy
   have:¬(0≤x.a∧x.a≤1048576):=hn
   omega
  ·split at hy
   ·simp only[List.mem_cons,List.not_mem_nil,or_false]at hy
    rcases hy with rfl|rfl
    ·have:¬(0≤x.n∧x.n≤4):=hn
     omega
    ·have:¬(0≤x.b∧x.b≤100000):=hn
     omega
   ·cases hy
theorem Rg:∀l:List Nat,(Ym l).length=2*l.length:=by
 intro l;induction l with
 | nil=>rfl
 | cons y l ih=>
  have e:Ym (y :: l)=[Z6 (y/16),Z6 (y%16)]++Ym l:=by simp[Ym]
  rw[e,List.length_append,ih];simp only[List.length_cons,List.length_nil];omega
theorem Wc (k:Int) (hk:1≤k∧k≤9):(∀x∈Z7 k,x<256)∧(Z7 k).length≤6:=by
 unfold Z7
 have h9:∀j,j<10→(∀x∈Y5.getD j [],x<256)∧(Y5.getD j []).length≤6:=by decide
 exact h9 _ (by omega)
theorem Jf {x:Raw} (h:x.err=0) (hb:∀y∈x.data,y<256):x.line≠[]∧x.line.length≤5000∧∀y∈x.line,y<256:=by
 obtain⟨hk,hd,hg⟩:=Qj h
 have h1:=Wc x.k hk
 have h2:=Qd (k:=x.k) (n:=x.n) (a:=x.a) (b:=x.b) (slotsOf x.k) (fun y hy=>⟨hg y hy,Xa y hy⟩)
 have h3:=Jb x.k
 have h4:=Rg x.data
 unfold Raw.line XW
 refine⟨by simp,?_,?_⟩
 ·simp only[List.length_append,List.length_cons,List.length_nil]
  split
  ·simp only[List.length_cons];omega
  ·simp only[List.length_nil];omega
 ·intro y hy
  simp only[List.mem_append,List.mem_singleton]at hy
  rcases hy with ((hy|hy)|hy)|hy
  ·exact h1.1 y hy
  ·unfold Xw at hy
   rw[List.mem_flatten]at hy
   obtain⟨l,hl,hy⟩:=hy
   rw[List.mem_map]at hl
   obtain⟨z,_,rfl⟩:=hl
   exact Je _ y hy
  ·split at hy
   ·rcases List.mem_cons.1 hy with rfl|hy
    ·omega
    ·unfold Ym at hy
     rw[List.mem_flatten]at hy
     obtain⟨l,hl,hy⟩:=hy
     rw[List.mem_map]at hl
     obtain⟨z,hz,rfl⟩:=hl
     have:=hb z hz
     have N3:∀y,y<16→Z6 y<256:=fun y hy=>by unfold Z6;split<;>omega
     simp only[List.mem_cons,List.not_mem_nil,or_false]at hy
     rcases hy with rfl|rfl
     ·exact N3 _ (by omega)
     ·exact N3 _ (by omega)
   ·cases hy
  ·omega
theorem Wd {l:List Raw} (h:∀x∈l,x.err=0∧∀y∈x.data,y<256):(Z4 l).length≤5000*l.length:=by
 induction l with
 | nil=>simp[Z4]
 | cons x l ih=>
  have e:Z4 (x :: l)=x.line++Z4 l:=by simp[Z4]
  have h1:=(Jf (h x (by simp)).1 (h x (by simp)).2).2.1
  have h2:=ih fun y hy=>h y (by simp[hy])
  rw[e,List.length_append,List.length_cons]
  omega
theorem R6 {l:List Raw} (h:l≠[]):Z4 l≠[]:=by
 obtain⟨x,l,rfl⟩:=List.exists_cons_of_ne_nil h
 intro e
 have e2:Z4 (x :: l)=x.line++Z4 l:=by simp[Z4]
 rw[e2]at e
 have:=(List.append_eq_nil_iff.1 e).1
 unfold Raw.line XW at this
 simp at this
theorem QR (l:List Raw) (x:Raw):Z4 (l++[x])=Z4 l++x.line:=by simp[Z4]
section
variable {P:Program} {T:World} {K:Value→Hp→Prop} {h:Hp} {ty:TypeId}
theorem JB {sT:Nat} {cb:Array Bool} (H:K (.pointer none) h):Ql P T .unsafeSliceData #[sT] ty cb [.slice none 0 0] K h:=H
theorem JC {pT iT:Nat} {cb:Array Bool} (H:K (.string ⟨#[]⟩) h):Ql P T .unsafeString #[pT,iT] ty cb [.pointer none,.int .i64 0] K h:=H
end
theorem Vr (T:World) (h:Hp) (b:Nat) (q:Option Addr) (hb:h[b]? = some (.cells [.pointer q,.slice none 0 0].toArray 38)) :
  Ze Tryd.prog T 15 #[.pointer (some ⟨b,0,none⟩)] h fun v' h'=>v'=.string ⟨#[]⟩∧h'=h:=by
 refine Ze.Zn (args:=[_]) Tryd.func15 rfl rfl rfl rfl ?_
 have x1:hc h ⟨b,1,none⟩=some (.slice none 0 0):=by rw[Zk hb];rfl
 simp +contextual -implicitDefEqProofs only[go_sem,↓reduceIte,x1]
 refine VS.w ((b+1)) [] (.q 0 (.q 1 (.q 2 (.q 3 (.q 5 (.q 6 (.q 7 (.q 8 (.q 9 (.s 4 (.s 10 (.q 11 .nil)))))))))))) mixed (by kernel_rfl) ?_
 simp -implicitDefEqProofs only[go_sem,↓reduceIte,x1]
 refine JB ?_
 simp -implicitDefEqProofs only[go_sem,↓reduceIte,x1]
 refine JC ?_
 simp -implicitDefEqProofs only[go_sem,↓reduceIte,x1]
set_option maxHeartbeats 4000000 in
theorem R7 (T:World) (h:Hp) (v:Value) (xs:List (Raw × Value)) (hv:Ts Yz 5 h v xs) (hx:∀x∈xs,Bs h x.2 x.1.data) (Oh:xs.length≤2513169434916) (tw:Words h) (tp:Xk h) :
  Ze Tryd.prog T 6 #[v] h fun v' h'=>v'=.tuple (Shown (Zx xs)).toArray∧Zg h.size h h':=by
 obtain⟨p,c,rfl,Ye⟩:=Xb hv
 have rl:(Zx xs).length=xs.length:=by unfold Zx;simp
 refine Ze.UU (args:=[_]) Tryd.func6 rfl rfl rfl rfl ?_
 by_cases UA:100000<xs.length
 ·have Qk:(xs.length:Int)>100000:=by omega
  have e2:Shown (Zx xs)=[YN [],.int .i64 0,.int .i64 1]:=by unfold Shown;rw[rl,if_pos UA]
  rw[e2]
  simp -implicitDefEqProofs only[go_sem,↓reduceIte,Qk]
  first|rfl|exact⟨rfl,Zg.refl _ _⟩|exact Zg.refl _ _
 have Qk:¬(xs.length:Int)>100000:=by omega
 obtain⟨G,hG⟩:=X2 (h.push (.cells [.pointer none,.slice none 0 0].toArray 38):Hp)
 have eG:=hG.symm
 have gB:G[h.size]? = some (.cells [.pointer none,.slice none 0 0].toArray 38):=by rw[hG];exact Zq
 have gb:Zg h.size h G:=by rw[hG];exact Zg.push (Nat.le_refl _) _
 have Hz:Vk h.size (.slice none 0 0) G []:=⟨⟨none,.inl rfl,gB⟩,⟨YX.nil _ _ _ _,fun x hx=>by cases hx⟩⟩
 simp -implicitDefEqProofs only[go_sem,↓reduceIte,Qk,eG]
 refine VS.XL (fun F g=>F 5=.pointer (some ⟨h.size,0,none⟩)∧F 12=.slice p xs.length c∧F 13=.int .i64 xs.length∧Zg h.size h g∧∃(j:Nat) (w:Value),j≤xs.length∧F 14=.int .i64 j∧(∀x∈(Zx xs).take j,x.err=0)∧Vk h.size w g (Z4 ((Zx xs).take j))∧(j=0→w=.slice none 0 0))
  (fun F _=>xs.length-(vi (F 14)).toNat) rfl ⟨rfl,rfl,rfl,gb,0,_,Nat.zero_le _,rfl,fun x hx=>by simp at hx,Hz,fun _=>rfl⟩ ?_
 rintro F2 g2 ⟨f5,f12,f13,b2,j,w,hj,f14,hz,bl,HA⟩
 have Xx:∀x∈Zx xs,∀y∈x.data,y<256:=fun x Uq=>by
  unfold Zx at Uq
  obtain⟨z,hz,rfl⟩:=List.mem_map.1 Uq
  exact (hx z hz).byte
 have Mb:=Wd (l:=(Zx xs).take j) fun x hx=>⟨hz x hx,Xx x (List.mem_of_mem_take hx)⟩
 rw[List.length_take]at Mb
 by_cases Zs:j<xs.length
 ·have YH:(j:Int)<xs.length:=by omega
  obtain⟨bb,oo,rfl,Up,Om⟩:=Ye (by intro e;rw[e]at Zs;simp at Zs)
  obtain⟨x,Vq⟩:=X2 (xs[j])
  have Uq:x∈xs:=by rw[Vq];exact List.getElem_mem Zs
  have R8:=hx x Uq
  obtain⟨pd,cd,On,_⟩:=R8.open
  rw[On]at R8
  have r1:rd g2 ⟨bb,oo+j*5,none⟩ 5=some (Yz x):=by rw[Q8 b2 Up,Vq];exact Om j Zs
  unfold Yz Zy at r1
  rw[On]at r1
  obtain⟨g3,R5⟩:=X2 (g2.push (.cells (Zy x.1.k x.1.n x.1.a x.1.b (.slice pd x.1.data.length cd)).toArray 34):Hp)
  have e3:=R5.symm
  have b3:Zg g2.size g2 g3:=by rw[R5];exact Zg.push (Nat.le_refl _) _
  have y3:g3[g2.size]? = some (.cells (Zy x.1.k x.1.n x.1.a x.1.b (.slice pd x.1.data.length cd)).toArray 34):=by rw[R5];exact Zq
  have r3:rd g3 ⟨g2.size,0,none⟩ 5=some (Zy x.1.k x.1.n x.1.a x.1.b (.slice pd x.1.data.length cd)):=Ua y3 rfl
  have l3:=Zb y3
  have ck:=QB T g3 x.1.k x.1.n x.1.a x.1.b pd x.1.data.length cd
  unfold Zy at e3 r3 ck
  simp -implicitDefEqProofs only[go_sem,↓reduceIte,f5,f12,f13,f14,YH,r1,e3,r3,l3]
  refine ck.use ?_
  rintro _ g4 ⟨rfl,b4⟩
  have L9:x.1.err=ZY x.1.k x.1.n x.1.a x.1.b x.1.data.length:=rfl
  rw[←L9]
  have y4:=b4.get l3 y3
  have Ka:Zg g2.size g2 g4:=b3.trans (b4.mono b3.size)
  have B4:Zg h.size h g4:=b2.trans (Ka.mono b2.size)
  have r4:rd g4 ⟨g2.size,0,none⟩ 5=some (Zy x.1.k x.1.n x.1.a x.1.b (.slice pd x.1.data.length cd)):=Ua y4 rfl
  have l4:=Zb y4
  have Ul:(Zx xs)[j]'(by rw[rl];exact Zs)=x.1:=by unfold Zx;simp[Vq]
  by_cases hex:x.1.err=0
  ·obtain⟨gk,gd,gg⟩:=Qj hex
   have lo:=R1 T g4 x.1.k x.1.n x.1.a x.1.b pd cd x.1.data gk (R8.ZZ B4) gd gg ⟨Nat.lt_of_lt_of_le tw.1 B4.size,fun k hk=>by rw[B4.hc tw.1];exact tw.2 k hk⟩ (by
    obtain⟨e,fr,ht⟩:=tp
    exact⟨e,fr,B4.get (Zb ht) ht⟩)
   unfold Zy at lo r4
   simp -implicitDefEqProofs only[go_sem,↓reduceIte,hex,r4,l4]
   refine lo.use ?_
   rintro _ g5 ⟨rfl,b5⟩
   have B5:Zg h.size h g5:=B4.trans (b5.mono B4.size)
   have K1:Zg g2.size g2 g5:=Ka.trans (b5.mono Ka.size)
   have Kb:Vk h.size w g5 (Z4 ((Zx xs).take j)):=by
    obtain⟨⟨q,hq,hb⟩,o⟩:=bl
    have:=Zb hb
    exact⟨⟨q,hq,K1.get this hb⟩,o.ZZ K1 (by omega)⟩
   have lf:=Jf hex R8.byte
   simp -implicitDefEqProofs only[go_sem,↓reduceIte,f5]
   unfold YN
   refine (Yd T g5 _ _ _ (XW x.1.k x.1.n x.1.a x.1.b x.1.data) Kb lf.2.2 (by have:=lf.2.1;unfold Raw.line at this;omega)).use ?_
   rintro _ g6 ⟨w6,HB,HC,_⟩
   have Gg:=Kb.lt
   have B6:Zg h.size h g6:=B5.trans (HC.ZZ (by omega) (Nat.le_refl _) (fun y hy=>by have:=Kb.low y hy;omega))
   simp -implicitDefEqProofs only[go_sem,↓reduceIte,f5,f12,f13,f14]
   refine⟨⟨f5,f12,f13,B6,j+1,w6,Zs,rfl,fun y hy=>?_,?_,fun e=>by omega⟩,?_⟩
   ·rw[ZH _ j (by rw[rl];exact Zs),List.mem_append,Ul]at hy
    rcases hy with hy|hy
    ·exact hz y hy
    ·have:y=x.1:=by simpa using hy
     rw[this];exact hex
   ·rw[ZH _ j (by rw[rl];exact Zs),Ul,QR]
    exact HB
   ·simp only[vi,ZG,↓reduceIte,f14];omega
  ·have e2:Shown (Zx xs)=[YN [],.int .i64 j,.int .i64 x.1.err]:=by
    unfold Shown
    rw[rl,if_neg UA,Xl (j:=j) (by rw[rl];exact Zs) hz (by rw[Ul];exact hex),Ul,Nat.zero_add]
   rw[e2]
   simp -implicitDefEqProofs only[go_sem,↓reduceIte,hex]
   exact⟨rfl,B4⟩
 have Jc:¬(j:Int)<xs.length:=by omega
 obtain rfl:j=xs.length:=by omega
 rw[List.take_of_length_le (by omega)]at hz bl Mb
 have e2:Shown (Zx xs)=[YN (Z4 (Zx xs)),.int .i64 0,.int .i64 0]:=by
  unfold Shown
  rw[rl,if_neg UA,Xm hz]
 rw[e2]
 by_cases h0:xs.length=0
 ·have MM:Zx xs=[]:=List.eq_nil_of_length_eq_zero (by omega)
  rw[MM]at bl ⊢
  obtain rfl:=HA h0
  obtain⟨⟨q,hq,hb⟩,_⟩:=bl
  simp -implicitDefEqProofs only[go_sem,↓reduceIte,f5,f12,f13,f14,Jc]
  refine (Vr T g2 h.size q hb).use ?_
  rintro _ _ ⟨rfl,rfl⟩
  simp -implicitDefEqProofs only[go_sem,↓reduceIte]
  exact⟨rfl,b2⟩
 ·simp -implicitDefEqProofs only[go_sem,↓reduceIte,f5,f12,f13,f14,Jc]
  refine (Jd T g2 _ _ _ bl ?_ (by omega)).use ?_
  ·exact R6 (fun e=>h0 (by rw[←rl,e];rfl))
  rintro _ g3 ⟨rfl,HD⟩
  simp -implicitDefEqProofs only[go_sem,↓reduceIte]
  have:=bl.lt
  exact⟨rfl,b2.trans (HD.ZZ (by omega) (Nat.le_refl _) (fun y hy=>by have:=bl.low y hy;omega))⟩
theorem Rh (T:World) (h:Hp) (v:Value) (xs:List (Raw × Value)) (hv:Ts Yz 5 h v xs) (hx:∀x∈xs,Bs h x.2 x.1.data) (Oh:xs.length≤2513169434916) :
  Ze Tryd.prog T 7 #[v] h fun v' h'=>v'=.tuple (Shown (Zx xs)).toArray∧Zg h.size h h':=by
 obtain⟨p,c,rfl,Ye⟩:=Xb hv
 have rl:(Zx xs).length=xs.length:=by unfold Zx;simp
 refine Ze.UU (args:=[_]) Tryd.func7 rfl rfl rfl rfl ?_
 by_cases UA:100000<xs.length
 ·have Qk:(xs.length:Int)>100000:=by omega
  have e2:Shown (Zx xs)=[YN [],.int .i64 0,.int .i64 1]:=by unfold Shown;rw[rl,if_pos UA]
  rw[e2]
  simp -implicitDefEqProofs only[go_sem,↓reduceIte,Qk]
  first|rfl|exact⟨rfl,Zg.refl _ _⟩|exact Zg.refl _ _
 have Qk:¬(xs.length:Int)>100000:=by omega
 simp -implicitDefEqProofs only[go_sem,↓reduceIte,Qk]
 refine VS.XL (fun F g=>F 0=.slice p xs.length c∧Zg h.size h g∧∃(j:Nat),j≤xs.length∧F 6=.int .i64 j∧(∀x∈(Zx xs).take j,x.err=0)∧Xg h.size 5 g (F 5) (Z4 ((Zx xs).take j)))
  (fun F _=>xs.length-(vi (F 6)).toNat) rfl ⟨rfl,Zg.refl _ _,0,Nat.zero_le _,rfl,fun x hx=>by simp at hx,Xg.nil _ _ _⟩ ?_
 rintro F2 g2 ⟨f0,b2,j,hj,f6,hz,ow⟩
 have Xx:∀x∈Zx xs,∀y∈x.data,y<256:=fun x Uq=>by
  unfold Zx at Uq
  obtain⟨z,hz,rfl⟩:=List.mem_map.1 Uq
  exact (hx z hz).byte
 have Mb:=Wd (l:=(Zx xs).take j) fun x hx=>⟨hz x hx,Xx x (List.mem_of_mem_take hx)⟩
 rw[List.length_take]at Mb
 obtain⟨p5,c5,f5,HE⟩:=ow.open
 rw[f5]at ow
 have Gh:=b2.size
 by_cases Zs:j<xs.length
 ·have YH:(j:Int)<xs.length:=by omega
  obtain⟨bb,oo,rfl,Up,Om⟩:=Ye (by intro e;rw[e]at Zs;simp at Zs)
  obtain⟨x,Vq⟩:=X2 (xs[j])
  have Uq:x∈xs:=by rw[Vq];exact List.getElem_mem Zs
  have R8:=hx x Uq
  obtain⟨pd,cd,On,_⟩:=R8.open
  rw[On]at R8
  have rr:∀g,Zg h.size h g→rd g ⟨bb,oo+j*5,none⟩ 5=some (Zy x.1.k x.1.n x.1.a x.1.b (.slice pd x.1.data.length cd)):=fun g hg=>by
   have:=Om j Zs
   rw[←Vq]at this
   unfold Yz at this
   rw[On]at this
   rw[Q8 hg Up,this]
  have r1:=rr g2 b2
  have ck:=U8 T g2 x.1.k x.1.n x.1.a x.1.b pd x.1.data.length cd
  unfold Zy at r1 ck
  simp -implicitDefEqProofs only[go_sem,↓reduceIte,f0,f6,YH,r1]
  refine ck.use ?_
  rintro _ g4 ⟨rfl,b4⟩
  have L9:x.1.err=ZY x.1.k x.1.n x.1.a x.1.b x.1.data.length:=rfl
  rw[←L9]
  have B4:Zg h.size h g4:=b2.trans (b4.mono b2.size)
  have Ul:(Zx xs)[j]'(by rw[rl];exact Zs)=x.1:=by unfold Zx;simp[Vq]
  have HF:=ow.ZZ b4 (by omega)
  by_cases hex:x.1.err=0
  ·obtain⟨gk,gd,gg⟩:=Qj hex
   have r4:=rr g4 B4
   have lo:=Vn T g4 x.1.k x.1.n x.1.a x.1.b pd cd x.1.data gk (R8.ZZ B4) gd gg
   unfold Zy at lo r4
   simp -implicitDefEqProofs only[go_sem,↓reduceIte,hex,f0,f5,f6,r4]
   refine lo.use ?_
   rintro v5 g5 ⟨o5,b5⟩
   have B5:Zg h.size h g5:=B4.trans (b5.mono B4.size)
   have HG:=HF.ZZ b5 (Nat.le_refl _)
   have lf:=Jf hex R8.byte
   have le:=Rb (k:=x.1.k) (n:=x.1.n) (a:=x.1.a) (b:=x.1.b) (d:=x.1.data) gk
   have lr:(XY x.1.k x.1.n x.1.a x.1.b x.1.data).length≤5000:=by
    have:=lf.2.1
    unfold Raw.line at this
    rw[le,List.length_append]at this
    omega
   simp -implicitDefEqProofs only[go_sem,↓reduceIte,f0,f5,f6]
   refine Zr (E:=5) (B:=h.size) Yc Tryd.underlying32 U4 U6 U5 HG B5.size o5.bs (by omega) ?_
   intro v6 g6 o6 b6 _ _
   have B6:Zg h.size h g6:=B5.trans b6
   simp -implicitDefEqProofs only[go_sem,↓reduceIte,f0,f6]
   refine Zr (E:=5) (B:=h.size) Yc Tryd.underlying32 U4 U6 U5 (o6.push _) (by have:=B6.size;simp;omega) (Bs.one (x:=10) (by omega) 1) (by simp only[List.length_append,List.length_singleton];omega) ?_
   intro v7 g7 o7 b7 _ _
   have B7:Zg h.size h g7:=(B6.JA B6.size _).trans b7
   simp -implicitDefEqProofs only[go_sem,↓reduceIte,f0,f6]
   refine⟨⟨f0,B7,j+1,Zs,rfl,fun y hy=>?_,?_⟩,?_⟩
   ·rw[ZH _ j (by rw[rl];exact Zs),List.mem_append,Ul]at hy
    rcases hy with hy|hy
    ·exact hz y hy
    ·have:y=x.1:=by simpa using hy
     rw[this];exact hex
   ·rw[ZH _ j (by rw[rl];exact Zs),Ul,QR]
    unfold Raw.line
    rw[le,←List.append_assoc]
    exact o7
   ·simp only[vi,ZG,↓reduceIte,f6];omega
  ·have e2:Shown (Zx xs)=[YN [],.int .i64 j,.int .i64 x.1.err]:=by
    unfold Shown
    rw[rl,if_neg UA,Xl (j:=j) (by rw[rl];exact Zs) hz (by rw[Ul];exact hex),Ul,Nat.zero_add]
   rw[e2]
   simp -implicitDefEqProofs only[go_sem,↓reduceIte,hex,f6]
   exact⟨rfl,B4⟩
 have Jc:¬(j:Int)<xs.length:=by omega
 obtain rfl:j=xs.length:=by omega
 rw[List.take_of_length_le (by omega)]at hz ow Mb f5
 have e2:Shown (Zx xs)=[YN (Z4 (Zx xs)),.int .i64 0,.int .i64 0]:=by
  unfold Shown
  rw[rl,if_neg UA,Xm hz]
 rw[e2]
 simp -implicitDefEqProofs only[go_sem,↓reduceIte,f0,f5,f6,Jc]
 refine Ya Tryd.underlying32 Tryd.underlying9 Tryd.underlying5 ow.bs ?_
 simp -implicitDefEqProofs only[go_sem,↓reduceIte]
 exact⟨rfl,b2⟩
end Go.Proofs.YthlfaofofaphfaaDoor
